/-
  Lemmas, part 17. Conditions: each theorem's own.
-/
import Derived.Test.YtlmdfmnbcndhoaaGreatDoorRl16
namespace Go.Proofs.YtlmdfmnbcndhoaaGreatDoor
open Go.RowKit
def kTo (K:Int) (k:Nat):Int:=if K < (k:Int) then K else 0
theorem zET {s:RS} (W:List UInt8) (h:s.bad=true):s.must W=s.mark false:=by
 obtain ⟨T,bad,lost⟩:=s;simp only at h;subst h;rfl
theorem zDS {s:RS} (W:List UInt8) (h:s.bad=false):s.must W=(s.is W).mark (!isB s.T W):=by
 unfold RS.must;rw [if_neg (by rw [h];simp)]
theorem zJc (J:Nat→Act→World→Prop) (Q:Exit→Act→World→Prop) (a:Act) (w:World):zDA J Q .normal a w=Q .normal a w:=rfl
theorem zLy (J:Nat→Act→World→Prop) (Q:Exit→Act→World→Prop) (id:Nat) (a:Act) (w:World):zDA J Q (.exit id) a w=Q (.exit id) a w:=rfl
theorem zCP (J:Nat→Act→World→Prop) (Q:Exit→Act→World→Prop) (a:Act) (w:World):zDA J Q .ret a w=Q .ret a w:=rfl
theorem zLz {J:Nat→Act→World→Prop} {Q:Exit→Act→World→Prop} {l:Nat} {a:Act} {w:World} (h:J l a w):zDA J Q (.goto l) a w:=h
theorem Row.store8 {w:World} {base g sz:Nat} {A:Option Addr} {n c:Nat} {xs:List Value} (h:Row w base sz A n c xs) (hg:g < base) (u0 u1 u2 u3 u4 u5 u6 u7:Value) :
  Row ((((((((w.setCell ⟨g,0,none⟩ u0).setCell ⟨g,1,none⟩ u1).setCell ⟨g,2,none⟩ u2).setCell ⟨g,3,none⟩ u3).setCell ⟨g,4,none⟩ u4).setCell ⟨g,5,none⟩ u5).setCell ⟨g,6,none⟩ u6).setCell ⟨g,7,none⟩ u7) base sz A n c xs:=by
 have hne:∀(wx:World),Row wx base sz A n c xs→∀k,blk A=some k→k≠g:=fun wx hx k hk=>by have:=(hx.lt k hk).1;omega
 have h0:=h.farSet 0 u0 (hne _ h);have h1:=h0.farSet 1 u1 (hne _ h0);have h2:=h1.farSet 2 u2 (hne _ h1);have h3:=h2.farSet 3 u3 (hne _ h2);have h4:=h3.farSet 4 u4 (hne _ h3);have h5:=h4.farSet 5 u5 (hne _ h4);have h6:=h5.farSet 6 u6 (hne _ h5);exact h6.farSet 7 u7 (hne _ h6)
theorem zRu {α:Type} (d:α):∀(n:Nat) (l:List α),l.length=n→l=(List.range n).map (fun i=>l.getD i d):=fun n l h=>by
 apply List.ext_getElem?;intro i;by_cases hi:i < n
 ·rw [List.getElem?_map,List.getElem?_range hi,List.getElem?_eq_getElem (by omega)];simp [List.getD,List.getElem?_eq_getElem (show i < l.length by omega)]
 ·rw [List.getElem?_eq_none (by omega),List.getElem?_eq_none (by simp;omega)]
theorem zEU (n:Nat) (t:Array Value) (h:t.size=n):t=⟨(List.range n).map (fun i=>t.getD i undef)⟩:=by
 apply Array.ext';have:=zRu undef n t.toList (by simpa using h);simp only [Array.getD_eq_getD_getElem?];rw [this]
 congr 1
 funext i
 simp [List.getD]
theorem zEV {p:Prop} (h:Hid p):p:=h.out
def zUi (w:World) (rb a1:Nat) (F:Fm) (f:Nat) (s4:RS) (X:World) (si:RS) (Pi:List Sp) (B:Option Addr) (m c N:Nat):Prop :=
 RX X rb F si∧Blk X w.heap.size 32 #[.int .i64 0,.int .i64 0,.int .i64 0,.int .i64 0,.bool false,.int .i64 0,.slice none 0 0,.bool false] ∧
  Blk X a1 32 #[.int .i64 3,.int .i64 (f:Int),.int .i64 0,.int .i64 0,.bool false,.int .i64 0,.slice B m c,.bool false]∧w.grownBy X (some rb)∧Row X (a1+1) 5 B m c (Pi.flatMap zCa)∧m=Pi.length ∧
  m+si.T.length≤s4.T.length∧si.T.length < N∧zDw F.L N si Pi=zDw F.L (s4.T.length+1) s4 []
set_option maxHeartbeats 12800000 in
set_option maxRecDepth 100000 in
theorem zLA (rb:Nat) (F:Fm) (s:RS) (w:World) (h:RX w rb F s) (hT:s.T.length≤100000) (hw:zBy (xa s.T 0)=3) :
  Calls Tryz.prog 98 #[.pointer (some ⟨rb,0,none⟩)] w (zEn w rb F (opR F.L s).1 (opR F.L s).2):=by
 obtain ⟨S0,gB⟩:∃S,xa s.T 0=S:=⟨_,rfl⟩
 obtain ⟨s1,e1⟩:∃x,s.next=x:=⟨_,rfl⟩
 obtain ⟨K,eK⟩:∃x,zBy S0=x:=⟨_,rfl⟩
 obtain ⟨s2,e2⟩:∃x,s1.mark (decide (K=0))=x:=⟨_,rfl⟩
 obtain ⟨S1,kI⟩:∃S,xa s2.T 0=S:=⟨_,rfl⟩
 obtain ⟨s3,e3⟩:∃x,s2.next=x:=⟨_,rfl⟩
 obtain ⟨s4,e4⟩:∃x,s3.fing F.L S1=x:=⟨_,rfl⟩
 obtain ⟨f,efi⟩:∃x,zDj F.L S1=x:=⟨_,rfl⟩
 obtain ⟨b,eb⟩:∃b,s1.bad=b:=⟨_,rfl⟩
 have cD:xa s.T.tail 0=S1:=by rw [←kI,←e2,←e1];rfl
 have pC:s4.T.length≤100000:=by
  rw [←e4,←e3,←e2,←e1];simp only [RS.fing,RS.next,RS.mark,List.length_tail];omega
 have HR:=qH (show opR F.L s=zBF F.L K f s4 by
  have hp:zEP F.L s=s4:=by
   unfold zEP
   rw [gB,cD,e1,eK,e2,e3,e4]
  unfold opR
  rw [hp,gB,cD,eK,efi])
 have hK:0≤K∧K≤8:=by
  by_cases e:K=0
  ·omega
  ·have:=zHe (v:=S0) (by rw [eK];exact e);rw [eK] at this;omega
 have ny:=qH (fun (k:Nat) (h1:1≤k) (h8:k≤8)=>(show ((bA (zAs (k:Int))).toList==(bA S0).toList)=decide (K=(k:Int)) by
  rw [zAr,zAr,←eK];exact zFF h1 h8 S0))
 have H1:=qH (fun wx (hx:RX wx rb F s)=>zCp hx);have H2:=qH (fun wx (hx:RX wx rb F s2)=>zCp hx);have H3:=qH (fun wx (hx:RX wx rb F s3)=>zCq hx S1)
 have HM:=qH (fun wx (hx:RX wx rb F s1)=>(show wx.cell? ⟨rb,4,none⟩=some (.bool b)∧wx.frozen? ⟨rb,4,none⟩=false∧∀q,q=(b||decide (K=0))→RX (wx.setCell ⟨rb,4,none⟩ (.bool q)) rb F s2∧wx.grownBy (wx.setCell ⟨rb,4,none⟩ (.bool q)) (some rb) from
  ⟨by rw [←eb];exact hx.bad4.1,hx.bad4.2,fun q hq=>by rw [←e2];exact hx.marked (decide (K=0)) q (by rw [eb];exact hq)⟩))
 simp only [gB,e1] at H1;simp only [kI,e3] at H2;simp only [efi,e4] at H3;rw [HR.out];have HW:Hid (K=3):=qH (by rw [←eK,←gB];exact hw);have hlt:=h.lt
 have fm:=qH (fun (o:Og) (st:RS) (he:zBF F.L K f s4=(o,st)) (wx:World) (B:Option Addr) (m d:Nat) (hrow:Row wx w.heap.size 5 B m d (o.path.flatMap zCa)) (hm:m=o.path.length) (hx:RX wx rb F st) (hg:w.grownBy wx (some rb)) =>
  (show zEn w rb F (zBF F.L K f s4).1 (zBF F.L K f s4).2 (.returned (opV o B m d)) wx from by rw [he];exact ⟨B,m,d,rfl,hrow,hm,hx,hg⟩))
 clear gB e1 e2 kI e3 e4 efi eb eK cD HR hT hw;have b1:Below w.heap.size w ((w.alloc (.cells #[.int .i64 0,.int .i64 0,.int .i64 0,.int .i64 0,.bool false,.int .i64 0,.slice none 0 0,.bool false] 32)).alloc (.cells #[.int .i64 0,.int .i64 0,.int .i64 0,.int .i64 0,.bool false,.int .i64 0,.slice none 0 0,.bool false] 32)):=((Below.refl _ _).alloc (Nat.le_refl _) _).alloc (by simp) _;have dO:Blk ((w.alloc (.cells #[.int .i64 0,.int .i64 0,.int .i64 0,.int .i64 0,.bool false,.int .i64 0,.slice none 0 0,.bool false] 32)).alloc (.cells #[.int .i64 0,.int .i64 0,.int .i64 0,.int .i64 0,.bool false,.int .i64 0,.slice none 0 0,.bool false] 32)) w.heap.size 32 #[.int .i64 0,.int .i64 0,.int .i64 0,.int .i64 0,.bool false,.int .i64 0,.slice none 0 0,.bool false]:=(Blk.new w _ _).alloc _;have cG:Blk ((w.alloc (.cells #[.int .i64 0,.int .i64 0,.int .i64 0,.int .i64 0,.bool false,.int .i64 0,.slice none 0 0,.bool false] 32)).alloc (.cells #[.int .i64 0,.int .i64 0,.int .i64 0,.int .i64 0,.bool false,.int .i64 0,.slice none 0 0,.bool false] 32)) (w.heap.size+1) 32 #[.int .i64 0,.int .i64 0,.int .i64 0,.int .i64 0,.bool false,.int .i64 0,.slice none 0 0,.bool false]:=by have:=Blk.new (w.alloc (.cells #[.int .i64 0,.int .i64 0,.int .i64 0,.int .i64 0,.bool false,.int .i64 0,.slice none 0 0,.bool false] 32)) 32 #[.int .i64 0,.int .i64 0,.int .i64 0,.int .i64 0,.bool false,.int .i64 0,.slice none 0 0,.bool false];rwa [World.size_alloc] at this
 have h1:=h.below b1;have g1:w.grownBy ((w.alloc (.cells #[.int .i64 0,.int .i64 0,.int .i64 0,.int .i64 0,.bool false,.int .i64 0,.slice none 0 0,.bool false] 32)).alloc (.cells #[.int .i64 0,.int .i64 0,.int .i64 0,.int .i64 0,.bool false,.int .i64 0,.slice none 0 0,.bool false] 32)) (some rb):=zAz b1;have au:rb < w.heap.size:=hlt;have am:rb < w.heap.size+1:=by omega
 have eX:w.heap.size≤w.heap.size:=Nat.le_refl _;have aW:w.heap.size≤w.heap.size+1:=by omega
 clear h b1;obtain ⟨a1,cM⟩:∃a,a=w.heap.size+1:=⟨_,rfl⟩
 have iY:w.heap.size < a1:=by omega
 go_enter Tryz.func98,Tryz.ntmps98;go_wp2_with fail
 generalize ((w.alloc (.cells #[.int .i64 0,.int .i64 0,.int .i64 0,.int .i64 0,.bool false,.int .i64 0,.slice none 0 0,.bool false] 32)).alloc (.cells #[.int .i64 0,.int .i64 0,.int .i64 0,.int .i64 0,.bool false,.int .i64 0,.slice none 0 0,.bool false] 32))=X1 at dO cG h1 g1 ⊢;rw [←cM] at cG am aW ⊢;clear cM;refine (H1.out X1 h1).mono ?_;rintro e yR ⟨rfl,oW,iR⟩;have dZ:=dO.grownO iR au;have dY:=cG.grownO iR am;have o3:=zAb g1 iR;clear h1 g1 dO cG iR H1;go_wp2_with fail
 go_loopw [5] (fun v wv=>∃(k:Nat) (X:World),X=wv∧1≤k∧k≤9∧v=.int .i64 k∧Hid (RX X rb F s1∧Blk X w.heap.size 32 #[.int .i64 0,.int .i64 0,.int .i64 0,.int .i64 0,.bool false,.int .i64 0,.slice none 0 0,.bool false]∧Blk X a1 32 #[.int .i64 (kTo K k),.int .i64 0,.int .i64 0,.int .i64 0,.bool false,.int .i64 0,.slice none 0 0,.bool false]∧w.grownBy X (some rb))) (fun v _=>9-(intOf v).toNat)
 case atStart=>exact ⟨1,_,rfl,by omega,by omega,rfl,qH (by rw [show kTo K 1=0 from by unfold kTo;split<;>omega];exact ⟨oW,dZ,dY,o3⟩)⟩
 case round =>
  clear oW o3 dZ dY;obtain ⟨k,X,hX,aq,EL,rfl,HX⟩:=hrel;subst hX;by_cases hk:k≤8
  ·have i1:(k:Int)≤8:=by omega
   have n0:=ny.out k aq hk;by_cases hq:K=(k:Int)
   ·obtain ⟨h12,dX,bU,ta⟩:=HX.out;rw [decide_eq_true hq] at n0;have Ed:=bU.frozen 0;have Gi:X.cell? ⟨a1,0,none⟩=some (.int .i64 (kTo K k)):=(bU.cell 0).trans rfl;have dV:Blk (X.setCell ⟨a1,0,none⟩ (.int .i64 (k:Int))) a1 32 #[.int .i64 (k:Int),.int .i64 0,.int .i64 0,.int .i64 0,.bool false,.int .i64 0,.slice none 0 0,.bool false]:=bU.set_ 0 _;have rm:Below (rb+1) X (X.setCell ⟨a1,0,none⟩ (.int .i64 (k:Int))):=(Below.refl _ _).setCell (p:=⟨a1,0,none⟩) am _;have rT:Below w.heap.size X (X.setCell ⟨a1,0,none⟩ (.int .i64 (k:Int))):=(Below.refl _ _).setCell (p:=⟨a1,0,none⟩) aW _;have dW:=dX.far (p:=⟨a1,0,none⟩) (by simp only;omega) (.int .i64 (k:Int));have sU:=h12.over rm;have s9:=zAc ta rT;clear h12 ta dX bU rm rT;have HF:=qH (show kTo K (k+1)=(k:Int) by unfold kTo;rw [if_pos (by omega)];exact hq);have HZ:=qH (show RX (X.setCell ⟨a1,0,none⟩ (.int .i64 (k:Int))) rb F s1∧Blk (X.setCell ⟨a1,0,none⟩ (.int .i64 (k:Int))) w.heap.size 32 #[.int .i64 0,.int .i64 0,.int .i64 0,.int .i64 0,.bool false,.int .i64 0,.slice none 0 0,.bool false]∧Blk (X.setCell ⟨a1,0,none⟩ (.int .i64 (k:Int))) a1 32 #[.int .i64 (k:Int),.int .i64 0,.int .i64 0,.int .i64 0,.bool false,.int .i64 0,.slice none 0 0,.bool false]∧w.grownBy (X.setCell ⟨a1,0,none⟩ (.int .i64 (k:Int))) (some rb) from ⟨sU,dW,dV,s9⟩);clear HX hq sU s9 dW dV;go_wp2_with (first | (go_at_call 106;refine (zBL (k:Int) (by omega) (by omega) _).mono ?_;rintro e wq ⟨rfl,rfl⟩))
    go_roundw
    case rel=>exact ⟨k+1,_,rfl,by omega,by omega,by go_num,qH (by rw [HF.out];exact HZ.out)⟩
    case measure=>simp [intOf];omega
   ·rw [decide_eq_false hq] at n0;have HF:=qH (show kTo K (k+1)=kTo K k by unfold kTo;split<;>split<;>omega);clear hq;go_wp2_with (first | (go_at_call 106;refine (zBL (k:Int) (by omega) (by omega) _).mono ?_;rintro e wq ⟨rfl,rfl⟩))
    go_roundw
    case rel=>exact ⟨k+1,_,rfl,by omega,by omega,by go_num,qH (by rw [HF.out];exact HX.out)⟩
    case measure=>simp [intOf];omega
  ·have i1:¬(k:Int)≤8:=by omega
   obtain ⟨sT,dU,bT,sZ⟩:=HX.out;rw [show kTo K k=K from by unfold kTo;rw [if_pos (by omega)]] at bT;obtain ⟨c4,z4,hm⟩:=HM.out X sT;have HZ:=qH (fun (q:Bool) hq=>(show RX (X.setCell ⟨rb,4,none⟩ (.bool q)) rb F s2∧Blk (X.setCell ⟨rb,4,none⟩ (.bool q)) w.heap.size 32 #[.int .i64 0,.int .i64 0,.int .i64 0,.int .i64 0,.bool false,.int .i64 0,.slice none 0 0,.bool false]∧Blk (X.setCell ⟨rb,4,none⟩ (.bool q)) a1 32 #[.int .i64 K,.int .i64 0,.int .i64 0,.int .i64 0,.bool false,.int .i64 0,.slice none 0 0,.bool false]∧w.grownBy (X.setCell ⟨rb,4,none⟩ (.bool q)) (some rb) from ⟨(hm q hq).1,dU.grownO (hm q hq).2 au,bT.grownO (hm q hq).2 am,zAb sZ (hm q hq).2⟩));have f0:X.cell? ⟨a1,0,none⟩=some (.int .i64 K):=(bT.cell 0).trans rfl;clear hm HM HX ny sT sZ dU bT;obtain ⟨q0,oH⟩:∃q,decide (K=0)=q:=⟨_,rfl⟩
   have i2:(K==0)=q0:=by rw [←oH];by_cases e:K=0<;>simp [e]
   rw [oH] at HZ;clear oH;go_upto_region 8 with fail
   go_cut [29] (fun _ wv=>∃X:World,X=wv∧RX X rb F s2∧Blk X w.heap.size 32 #[.int .i64 0,.int .i64 0,.int .i64 0,.int .i64 0,.bool false,.int .i64 0,.slice none 0 0,.bool false]∧Blk X a1 32 #[.int .i64 K,.int .i64 0,.int .i64 0,.int .i64 0,.bool false,.int .i64 0,.slice none 0 0,.bool false]∧w.grownBy X (some rb))
   case first =>
    cases b<;>cases q0
    all_goals
     go_wp2_with fail
     go_meet
     case rel=>exact ⟨_,rfl,HZ.out _ rfl⟩
   case rest =>
    clear c4 z4 HZ f0 i2;obtain ⟨X,hX,sS,dT,dS,sY⟩:=hcut;subst hX;go_wp2_with fail
    refine (H2.out X sS).mono ?_;rintro e yQ ⟨rfl,sR,iQ⟩;have dR:=dT.grownO iQ au;have dQ:=dS.grownO iQ am;have sX:=zAb sY iQ;clear sS sY dT dS iQ H2;go_wp2_with fail
    refine (H3.out yQ sR).mono ?_;rintro e gv ⟨rfl,sQ,iP⟩;have dP:=dR.grownO iP au;have bQ:=dQ.grownO iP am;have g17:=zAb sX iP;clear sR sX dR dQ iP H3;have wI:=bQ.frozen 1;have yK:gv.cell? ⟨a1,1,none⟩=some (.int .i64 0):=(bQ.cell 1).trans rfl;have cv:Blk (gv.setCell ⟨a1,1,none⟩ (.int .i64 (f:Int))) a1 32 #[.int .i64 K,.int .i64 (f:Int),.int .i64 0,.int .i64 0,.bool false,.int .i64 0,.slice none 0 0,.bool false]:=bQ.set_ 1 _;have rl:Below (rb+1) gv (gv.setCell ⟨a1,1,none⟩ (.int .i64 (f:Int))):=(Below.refl _ _).setCell (p:=⟨a1,1,none⟩) am _;have rS:Below w.heap.size gv (gv.setCell ⟨a1,1,none⟩ (.int .i64 (f:Int))):=(Below.refl _ _).setCell (p:=⟨a1,1,none⟩) aW _;have cw:=dP.far (p:=⟨a1,1,none⟩) (by simp only;omega) (.int .i64 (f:Int));have oV:=sQ.over rl;have g18:=zAc g17 rS;clear sQ g17 dP bQ rl rS;go_upto_region 10 with fail
    clear wI yK;generalize gv.setCell ⟨a1,1,none⟩ (.int .i64 (f:Int))=X9 at oV g18 cw cv ⊢;have HA:=qH (show RX X9 rb F s4∧Blk X9 w.heap.size 32 #[.int .i64 0,.int .i64 0,.int .i64 0,.int .i64 0,.bool false,.int .i64 0,.slice none 0 0,.bool false]∧Blk X9 a1 32 #[.int .i64 K,.int .i64 (f:Int),.int .i64 0,.int .i64 0,.bool false,.int .i64 0,.slice none 0 0,.bool false]∧w.grownBy X9 (some rb) from ⟨oV,cw,cv,g18⟩);clear oV g18 cw cv;by_cases n4:K=4
    ·subst n4;exact absurd HW.out (by omega)
    by_cases n5:K=5
    ·subst n5;exact absurd HW.out (by omega)
    by_cases n6:K=6
    ·subst n6;exact absurd HW.out (by omega)
    by_cases n7:K=7
    ·subst n7;exact absurd HW.out (by omega)
    by_cases n3:K=3
    ·subst n3;obtain ⟨kF,cu,bO,oZ⟩:=HA.out;clear HA;have f0:X9.cell? ⟨a1,0,none⟩=some (.int .i64 3):=(bO.cell 0).trans rfl;have tc:=qH (show zUi w rb a1 F f s4 X9 s4 [] none 0 0 (s4.T.length+1) from ⟨kF,cu,bO,oZ,Row.none_ _ _ _,rfl,by omega,by omega,rfl⟩);go_wp2_with fail
     clear f0 kF oZ cu bO;refine zHG 0 s4.T.length (fun n a wv=>∃(X:World) (si:RS) (Pi:List Sp) (B:Option Addr) (m c N:Nat),(a.tmps.size=129∧a.tmps.getD 0 undef=.pointer (some ⟨rb,0,none⟩)∧a.tmps.getD 2 undef=.pointer (some ⟨w.heap.size,0,none⟩)∧a.tmps.getD 3 undef=.pointer (some ⟨a1,0,none⟩)∧a.defers=[])∧X=wv∧n=si.T.length∧Hid (zUi w rb a1 F f s4 X si Pi B m c N)) ?_ ?_
     ·exact ⟨_,s4,[],none,0,0,_,⟨rfl,rfl,rfl,rfl,rfl⟩,rfl,rfl,tc⟩
     clear tc;rintro n ⟨tm,df⟩ X ⟨X0,si,Pi,B,m,c,N,⟨hs,t0,t2,t3,hd⟩,hX,hn,HJ⟩;subst hX;subst hn;simp only at hs t0 t2 t3 hd;subst hd;obtain ⟨v,hv⟩:∃v:Nat→Value,tm=#[.pointer (some ⟨rb,0,none⟩),v 1,.pointer (some ⟨w.heap.size,0,none⟩),.pointer (some ⟨a1,0,none⟩),v 4,v 5,v 6,v 7,v 8,v 9,v 10,v 11,v 12,v 13,v 14,v 15,v 16,v 17,v 18,v 19,v 20,v 21,v 22,v 23,v 24,v 25,v 26,v 27,v 28,v 29,v 30,v 31,v 32,v 33,v 34,v 35,v 36,v 37,v 38,v 39,v 40,v 41,v 42,v 43,v 44,v 45,v 46,v 47,v 48,v 49,v 50,v 51,v 52,v 53,v 54,v 55,v 56,v 57,v 58,v 59,v 60,v 61,v 62,v 63,v 64,v 65,v 66,v 67,v 68,v 69,v 70,v 71,v 72,v 73,v 74,v 75,v 76,v 77,v 78,v 79,v 80,v 81,v 82,v 83,v 84,v 85,v 86,v 87,v 88,v 89,v 90,v 91,v 92,v 93,v 94,v 95,v 96,v 97,v 98,v 99,v 100,v 101,v 102,v 103,v 104,v 105,v 106,v 107,v 108,v 109,v 110,v 111,v 112,v 113,v 114,v 115,v 116,v 117,v 118,v 119,v 120,v 121,v 122,v 123,v 124,v 125,v 126,v 127,v 128]:=⟨fun i=>tm.getD i undef,by rw [←t0,←t2,←t3];exact zEU 129 tm hs⟩
     subst hv;clear hs t0 t2 t3;obtain ⟨jK,aB,aN,jL,jV,hm,hle,hN,hpk⟩:=HJ.out;obtain ⟨N,rfl⟩:∃n',N=n'+1:=⟨N-1,by omega⟩
     rw [zDw] at hpk;have wl:=qH (fun wx (hx:RX wx rb F si)=>zNy hx zAx)
     cases hib:isB si.T zAx with
     | true =>
      obtain ⟨sj,ej⟩:∃x,si.is zAx=x:=⟨_,rfl⟩
      obtain ⟨⟨xf,xl,xfar,xpc⟩,ex⟩:∃x,(zAN F.L sj).1=x:=⟨_,rfl⟩
      obtain ⟨se,ee⟩:∃x,(zAN F.L sj).2=x:=⟨_,rfl⟩
      have HE:=qH (show zBF F.L 3 f s4=(⟨3,f,⟨xf,xl,xfar,xpc⟩,Pi,false⟩,se) by unfold zBF;rw [if_neg (by omega),if_pos rfl,←hpk,if_pos hib,ej,ex,ee]);have cB:=qH (fun wx (hx:RX wx rb F sj)=>zDz rb F sj wx hx);simp only [ex,ee] at cB;simp only [hib,ej] at wl;have AK:=qH hm;clear hib ej ex ee hpk HJ hN hm hle;go_wp2_with fail
      refine (wl.out X0 jK).mono ?_;rintro e jM ⟨rfl,mF,hG⟩;have f8:=aB.grownO hG au;have eF:=aN.grownO hG am;have wK:=jV.overO hG (by omega);have mI:=zAb jL hG;clear jK jL aB aN jV hG wl;go_wp2_with fail
      refine (cB.out jM mF).mono ?_;rintro e fL ⟨rfl,eP,lq⟩;have aO:=f8.grownO lq au;have cd:=eF.grownO lq am;have tA:=wK.overO lq (by omega);have fh:=zAb mI lq;clear mF mI f8 eF wK lq cB;have wD:=cd.frozen 2;have yF:fL.cell? ⟨a1,2,none⟩=some (.int .i64 0):=(cd.cell 2).trans rfl;have wC:=cd.frozen 3;have yE:fL.cell? ⟨a1,3,none⟩=some (.int .i64 0):=(cd.cell 3).trans rfl;have wB:=cd.frozen 4;have yD:fL.cell? ⟨a1,4,none⟩=some (.bool false):=(cd.cell 4).trans rfl;have wA:=cd.frozen 5;have yC:fL.cell? ⟨a1,5,none⟩=some (.int .i64 0):=(cd.cell 5).trans rfl;have sy:Blk (fL.setCell ⟨a1,2,none⟩ (.int .i64 xf)) a1 32 #[.int .i64 3,.int .i64 (f:Int),.int .i64 xf,.int .i64 0,.bool false,.int .i64 0,.slice B m c,.bool false]:=cd.set_ 2 _;have qZ:Below (rb+1) fL (fL.setCell ⟨a1,2,none⟩ (.int .i64 xf)):=(Below.refl _ _).setCell (p:=⟨a1,2,none⟩) am _;have rI:Below w.heap.size fL (fL.setCell ⟨a1,2,none⟩ (.int .i64 xf)):=(Below.refl _ _).setCell (p:=⟨a1,2,none⟩) aW _;have iX:=aO.far (p:=⟨a1,2,none⟩) (by simp only;omega) (.int .i64 xf);have ka:=tA.farSet (g:=a1) 2 (.int .i64 xf) (fun k hk=>by have:=(tA.lt k hk).1;omega);have sw:Blk ((fL.setCell ⟨a1,2,none⟩ (.int .i64 xf)).setCell ⟨a1,3,none⟩ (.int .i64 xl)) a1 32 #[.int .i64 3,.int .i64 (f:Int),.int .i64 xf,.int .i64 xl,.bool false,.int .i64 0,.slice B m c,.bool false]:=sy.set_ 3 _;have qY:Below (rb+1) fL ((fL.setCell ⟨a1,2,none⟩ (.int .i64 xf)).setCell ⟨a1,3,none⟩ (.int .i64 xl)):=qZ.setCell (p:=⟨a1,3,none⟩) am _;have rH:Below w.heap.size fL ((fL.setCell ⟨a1,2,none⟩ (.int .i64 xf)).setCell ⟨a1,3,none⟩ (.int .i64 xl)):=rI.setCell (p:=⟨a1,3,none⟩) aW _;have iW:=iX.far (p:=⟨a1,3,none⟩) (by simp only;omega) (.int .i64 xl);have j8:=ka.farSet (g:=a1) 3 (.int .i64 xl) (fun k hk=>by have:=(ka.lt k hk).1;omega);have sv:Blk (((fL.setCell ⟨a1,2,none⟩ (.int .i64 xf)).setCell ⟨a1,3,none⟩ (.int .i64 xl)).setCell ⟨a1,4,none⟩ (.bool xfar)) a1 32 #[.int .i64 3,.int .i64 (f:Int),.int .i64 xf,.int .i64 xl,.bool xfar,.int .i64 0,.slice B m c,.bool false]:=sw.set_ 4 _;have qX:Below (rb+1) fL (((fL.setCell ⟨a1,2,none⟩ (.int .i64 xf)).setCell ⟨a1,3,none⟩ (.int .i64 xl)).setCell ⟨a1,4,none⟩ (.bool xfar)):=qY.setCell (p:=⟨a1,4,none⟩) am _;have rG:Below w.heap.size fL (((fL.setCell ⟨a1,2,none⟩ (.int .i64 xf)).setCell ⟨a1,3,none⟩ (.int .i64 xl)).setCell ⟨a1,4,none⟩ (.bool xfar)):=rH.setCell (p:=⟨a1,4,none⟩) aW _;have iV:=iW.far (p:=⟨a1,4,none⟩) (by simp only;omega) (.bool xfar);have j7:=j8.farSet (g:=a1) 4 (.bool xfar) (fun k hk=>by have:=(j8.lt k hk).1;omega);have su:Blk ((((fL.setCell ⟨a1,2,none⟩ (.int .i64 xf)).setCell ⟨a1,3,none⟩ (.int .i64 xl)).setCell ⟨a1,4,none⟩ (.bool xfar)).setCell ⟨a1,5,none⟩ (.int .i64 xpc)) a1 32 #[.int .i64 3,.int .i64 (f:Int),.int .i64 xf,.int .i64 xl,.bool xfar,.int .i64 xpc,.slice B m c,.bool false]:=sv.set_ 5 _;have qW:Below (rb+1) fL ((((fL.setCell ⟨a1,2,none⟩ (.int .i64 xf)).setCell ⟨a1,3,none⟩ (.int .i64 xl)).setCell ⟨a1,4,none⟩ (.bool xfar)).setCell ⟨a1,5,none⟩ (.int .i64 xpc)):=qX.setCell (p:=⟨a1,5,none⟩) am _;have rF:Below w.heap.size fL ((((fL.setCell ⟨a1,2,none⟩ (.int .i64 xf)).setCell ⟨a1,3,none⟩ (.int .i64 xl)).setCell ⟨a1,4,none⟩ (.bool xfar)).setCell ⟨a1,5,none⟩ (.int .i64 xpc)):=rG.setCell (p:=⟨a1,5,none⟩) aW _;have aD:=iV.far (p:=⟨a1,5,none⟩) (by simp only;omega) (.int .i64 xpc);have oe:=j7.farSet (g:=a1) 5 (.int .i64 xpc) (fun k hk=>by have:=(j7.lt k hk).1;omega);have yl:=eP.over qW;have yx:=zAc fh rF;clear eP fh aO cd tA qZ rI sy iX ka qY rH sw iW j8 qX rG sv iV j7 qW rF;go_wp2_with fail
      rw [zLy];clear wD yF wC yE wB yD wA yC;generalize ((((fL.setCell ⟨a1,2,none⟩ (.int .i64 xf)).setCell ⟨a1,3,none⟩ (.int .i64 xl)).setCell ⟨a1,4,none⟩ (.bool xfar)).setCell ⟨a1,5,none⟩ (.int .i64 xpc))=X24 at yl yx aD su oe ⊢;obtain ⟨f0,f1,f2,f3,f4,f5,f6,f7⟩:=cQ8 su;have y0:X24.cell? ⟨w.heap.size,0,none⟩=some (.int .i64 0):=(aD.cell 0).trans rfl;have jR:=aD.frozen 0;have y1:X24.cell? ⟨w.heap.size,1,none⟩=some (.int .i64 0):=(aD.cell 1).trans rfl;have jQ:=aD.frozen 1;have y2:X24.cell? ⟨w.heap.size,2,none⟩=some (.int .i64 0):=(aD.cell 2).trans rfl;have ln:=aD.frozen 2;have y3:X24.cell? ⟨w.heap.size,3,none⟩=some (.int .i64 0):=(aD.cell 3).trans rfl;have ll:=aD.frozen 3;have y4:X24.cell? ⟨w.heap.size,4,none⟩=some (.bool false):=(aD.cell 4).trans rfl;have lk:=aD.frozen 4;have y5:X24.cell? ⟨w.heap.size,5,none⟩=some (.int .i64 0):=(aD.cell 5).trans rfl;have lj:=aD.frozen 5;have y6:X24.cell? ⟨w.heap.size,6,none⟩=some (.slice none 0 0):=(aD.cell 6).trans rfl;have li:=aD.frozen 6;have y7:X24.cell? ⟨w.heap.size,7,none⟩=some (.bool false):=(aD.cell 7).trans rfl;have lh:=aD.frozen 7;have hS:=aD.store8 (.int .i64 3) (.int .i64 (f:Int)) (.int .i64 xf) (.int .i64 xl) (.bool xfar) (.int .i64 xpc) (.slice B m c) (.bool false);have bS:=zAd (Below.refl (rb+1) X24) (show rb+1≤w.heap.size from au) (.int .i64 3) (.int .i64 (f:Int)) (.int .i64 xf) (.int .i64 xl) (.bool xfar) (.int .i64 xpc) (.slice B m c) (.bool false);have kP:=zAd (Below.refl w.heap.size X24) eX (.int .i64 3) (.int .i64 (f:Int)) (.int .i64 xf) (.int .i64 xl) (.bool xfar) (.int .i64 xpc) (.slice B m c) (.bool false);have hX:=yl.over bS;have gX:=zAc yx kP;have hE:=oe.store8  (show w.heap.size < a1+1 by omega) (.int .i64 3) (.int .i64 (f:Int)) (.int .i64 xf) (.int .i64 xl) (.bool xfar) (.int .i64 xpc) (.slice B m c) (.bool false);go_wp2_with fail
      exact zAu rfl rfl hS Tryz.underlying32 rfl (by kernel_rfl) rfl (fm.out ⟨3,f,⟨xf,xl,xfar,xpc⟩,Pi,false⟩ se HE.out _ B m c (hE.mono (by omega)) AK.out hX gX)
     | false =>
      obtain ⟨ov,eov⟩:∃x,ovT (xa si.T 0)=x:=⟨_,rfl⟩
      obtain ⟨sa,ea⟩:∃x,si.over=x:=⟨_,rfl⟩
      obtain ⟨⟨xf,xl,xfar,xpc⟩,ex⟩:∃x,(zAN F.L sa).1=x:=⟨_,rfl⟩
      obtain ⟨sb,eb⟩:∃x,(zAN F.L sa).2=x:=⟨_,rfl⟩
      obtain ⟨sc,ec⟩:∃x,sb.must [44]=x:=⟨_,rfl⟩
      have ES:zKT F.L si=(⟨⟨xf,xl,xfar,xpc⟩,ov⟩,sc):=by unfold zKT;rw [ea,ex,eb,ec,eov]
      have mO:=qH (fun (hb:sc.bad=false)=>(show sc.T.length < si.T.length by have:=zSV (L:=F.L) (s:=si) (by rw [ES];exact hb);obtain ⟨_,y,_,hT,_⟩:=this;rw [ES] at hT;have:=congrArg List.length hT;simp [stT] at this;omega));have yY:=qH (show (if sc.bad then ((Pi++[(⟨⟨xf,xl,xfar,xpc⟩,ov⟩:Sp)],s0),sc) else zDw F.L N sc (Pi++[(⟨⟨xf,xl,xfar,xpc⟩,ov⟩:Sp)]))=zDw F.L (s4.T.length+1) s4 [] by rw [←hpk,hib,ES];rfl);have cB:=qH (fun wx (hx:RX wx rb F sa)=>zDz rb F sa wx hx);simp only [ex,eb] at cB;have bY:=qH (fun wx (hx:RX wx rb F si)=>zHk hx);simp only [eov,ea] at bY;simp only [hib,zIh hib] at wl;have AK:=qH hm;have iI:=qH hle;have Dw:=qH hN;have hm5:m≤100000:=by omega
      have EC:=qH ec;clear hib eov ea ex eb ec ES hpk HJ hN hm hle;go_wp2_with fail
      refine (wl.out X0 jK).mono ?_;rintro e iH ⟨rfl,mE,gF⟩;have fY:=aB.grownO gF au;have eE:=aN.grownO gF am;have wJ:=jV.overO gF (by omega);have mH:=zAb jL gF;clear jK jL aB aN jV gF wl;go_wp2_with fail
      refine (bY.out iH mE).mono ?_;rintro e qq ⟨rfl,iy,jC⟩;have dK:=fY.grownO jC au;have dJ:=eE.grownO jC am;have tz:=wJ.overO jC (by omega);have jq:=zAb mH jC;clear mE mH fY eE wJ jC bY;have oT:=fun k hk=>(tz.lt k hk).2
      have iO:Below qq.heap.size qq (qq.alloc (.cells #[.int .i64 0,.int .i64 0,.bool false,.int .i64 0,.bool ov] 86)):=(Below.refl _ _).alloc (Nat.le_refl _) _;have kp:=dK.below iO dK.lt;have km:=dJ.below iO dJ.lt;have ij:Blk (qq.alloc (.cells #[.int .i64 0,.int .i64 0,.bool false,.int .i64 0,.bool ov] 86)) qq.heap.size 86 #[.int .i64 0,.int .i64 0,.bool false,.int .i64 0,.bool ov]:=Blk.new _ _ _;have qk:=iy.below iO;have jW:=tz.below iO;have qm:=zAb jq (zAz (row:=some rb) iO);have gM:=iy.lt;have on:=dK.lt;have ol:=dJ.lt;have gr:=jq.size;clear iy jq dK dJ tz iO;go_wp2_with fail
      generalize qq.alloc (.cells #[.int .i64 0,.int .i64 0,.bool false,.int .i64 0,.bool ov] 86)=qo at qk qm kp km ij jW ⊢;generalize qq.heap.size=a_st at ij gM gr on ol oT ⊢;have qj:=oT;clear oT;refine (cB.out qo qk).mono ?_;rintro e cg ⟨rfl,jK,iN⟩;have aB:=kp.grownO iN au;have aN:=km.grownO iN am;have cL:=ij.grownO iN gM;have jV:=jW.overO iN (by omega);have jL:=zAb qm iN;clear qk qm kp km ij jW iN cB;have lg:=cL.frozen 0;have mM:cg.cell? ⟨a_st,0,none⟩=some (.int .i64 0):=(cL.cell 0).trans rfl;have ld:=cL.frozen 1;have mL:cg.cell? ⟨a_st,1,none⟩=some (.int .i64 0):=(cL.cell 1).trans rfl;have lc:=cL.frozen 2;have mK:cg.cell? ⟨a_st,2,none⟩=some (.bool false):=(cL.cell 2).trans rfl;have kZ:=cL.frozen 3;have mJ:cg.cell? ⟨a_st,3,none⟩=some (.int .i64 0):=(cL.cell 3).trans rfl;have jd:Blk (cg.setCell ⟨a_st,0,none⟩ (.int .i64 xf)) a_st 86 #[.int .i64 xf,.int .i64 0,.bool false,.int .i64 0,.bool ov]:=cL.set_ 0 _;have fA:Below (rb+1) cg (cg.setCell ⟨a_st,0,none⟩ (.int .i64 xf)):=(Below.refl _ _).setCell (p:=⟨a_st,0,none⟩) gM _;have fE:Below w.heap.size cg (cg.setCell ⟨a_st,0,none⟩ (.int .i64 xf)):=(Below.refl _ _).setCell (p:=⟨a_st,0,none⟩) gr _;have dD:=aB.far (p:=⟨a_st,0,none⟩) (by simp only;omega) (.int .i64 xf);have iU:=aN.far (p:=⟨a_st,0,none⟩) (by simp only;omega) (.int .i64 xf);have n8:=jV.farSet (g:=a_st) 0 (.int .i64 xf) (fun k hk=>Nat.ne_of_lt (qj k hk));have jc:Blk ((cg.setCell ⟨a_st,0,none⟩ (.int .i64 xf)).setCell ⟨a_st,1,none⟩ (.int .i64 xl)) a_st 86 #[.int .i64 xf,.int .i64 xl,.bool false,.int .i64 0,.bool ov]:=jd.set_ 1 _;have fz:Below (rb+1) cg ((cg.setCell ⟨a_st,0,none⟩ (.int .i64 xf)).setCell ⟨a_st,1,none⟩ (.int .i64 xl)):=fA.setCell (p:=⟨a_st,1,none⟩) gM _;have fD:Below w.heap.size cg ((cg.setCell ⟨a_st,0,none⟩ (.int .i64 xf)).setCell ⟨a_st,1,none⟩ (.int .i64 xl)):=fE.setCell (p:=⟨a_st,1,none⟩) gr _;have dC:=dD.far (p:=⟨a_st,1,none⟩) (by simp only;omega) (.int .i64 xl);have iT:=iU.far (p:=⟨a_st,1,none⟩) (by simp only;omega) (.int .i64 xl);have nZ:=n8.farSet (g:=a_st) 1 (.int .i64 xl) (fun k hk=>Nat.ne_of_lt (qj k hk));have jb:Blk (((cg.setCell ⟨a_st,0,none⟩ (.int .i64 xf)).setCell ⟨a_st,1,none⟩ (.int .i64 xl)).setCell ⟨a_st,2,none⟩ (.bool xfar)) a_st 86 #[.int .i64 xf,.int .i64 xl,.bool xfar,.int .i64 0,.bool ov]:=jc.set_ 2 _;have fy:Below (rb+1) cg (((cg.setCell ⟨a_st,0,none⟩ (.int .i64 xf)).setCell ⟨a_st,1,none⟩ (.int .i64 xl)).setCell ⟨a_st,2,none⟩ (.bool xfar)):=fz.setCell (p:=⟨a_st,2,none⟩) gM _;have fC:Below w.heap.size cg (((cg.setCell ⟨a_st,0,none⟩ (.int .i64 xf)).setCell ⟨a_st,1,none⟩ (.int .i64 xl)).setCell ⟨a_st,2,none⟩ (.bool xfar)):=fD.setCell (p:=⟨a_st,2,none⟩) gr _;have dB:=dC.far (p:=⟨a_st,2,none⟩) (by simp only;omega) (.bool xfar);have iS:=iT.far (p:=⟨a_st,2,none⟩) (by simp only;omega) (.bool xfar);have nY:=nZ.farSet (g:=a_st) 2 (.bool xfar) (fun k hk=>Nat.ne_of_lt (qj k hk));have fW:Blk ((((cg.setCell ⟨a_st,0,none⟩ (.int .i64 xf)).setCell ⟨a_st,1,none⟩ (.int .i64 xl)).setCell ⟨a_st,2,none⟩ (.bool xfar)).setCell ⟨a_st,3,none⟩ (.int .i64 xpc)) a_st 86 #[.int .i64 xf,.int .i64 xl,.bool xfar,.int .i64 xpc,.bool ov]:=jb.set_ 3 _;have fw:Below (rb+1) cg ((((cg.setCell ⟨a_st,0,none⟩ (.int .i64 xf)).setCell ⟨a_st,1,none⟩ (.int .i64 xl)).setCell ⟨a_st,2,none⟩ (.bool xfar)).setCell ⟨a_st,3,none⟩ (.int .i64 xpc)):=fy.setCell (p:=⟨a_st,3,none⟩) gM _;have fB:Below w.heap.size cg ((((cg.setCell ⟨a_st,0,none⟩ (.int .i64 xf)).setCell ⟨a_st,1,none⟩ (.int .i64 xl)).setCell ⟨a_st,2,none⟩ (.bool xfar)).setCell ⟨a_st,3,none⟩ (.int .i64 xpc)):=fC.setCell (p:=⟨a_st,3,none⟩) gr _;have ct:=dB.far (p:=⟨a_st,3,none⟩) (by simp only;omega) (.int .i64 xpc);have dA:=iS.far (p:=⟨a_st,3,none⟩) (by simp only;omega) (.int .i64 xpc);have gZ:=nY.farSet (g:=a_st) 3 (.int .i64 xpc) (fun k hk=>Nat.ne_of_lt (qj k hk));have nj:=jK.over fw;have nk:=zAc jL fB;clear jK jL aB aN cL jV fA fE jd dD iU n8 fz fD jc dC iT nZ fy fC jb dB iS nY fw fB;go_upto_region 18 with fail
      clear lg mM ld mL lc mK kZ mJ;generalize ((((cg.setCell ⟨a_st,0,none⟩ (.int .i64 xf)).setCell ⟨a_st,1,none⟩ (.int .i64 xl)).setCell ⟨a_st,2,none⟩ (.bool xfar)).setCell ⟨a_st,3,none⟩ (.int .i64 xpc))=X32 at nj nk ct dA fW gZ ⊢;have f6:X32.cell? ⟨a1,6,none⟩=some (.slice B m c):=(dA.cell 6).trans rfl;obtain ⟨y0,y1,y2,y3,y4⟩:=cQ5 fW;have hsz:a1+1≤X32.heap.size:=by have:=dA.lt;omega
      go_upto_region 19 with (at_builtin;refine zEV ?_)
      refine qH ?_;refine zVK (y:=⟨⟨xf,xl,xfar,xpc⟩,ov⟩) (N:=m+1) (base:=a1+1) (A:=B) (n:=m) (c:=c) (P:=Pi) rfl (.tmp 58) (.tmp 60) ?_ ?_ ?_ ?_ ?_ ?_ ?_ ?_
      ·rfl
      ·exact gZ
      ·rfl
      ·rfl
      ·rfl
      ·omega
      ·exact hsz
      intro A2 c2 w9 hR9 cl ck;have aS:=gZ.belowOf cl hsz;have h9:=nj.over (aS.mono (by omega));have rU:=ct.below aS (by omega);have mo:=dA.below aS (by omega);have g9:=zAc nk (aS.mono (by omega));clear hsz aS cl ck nj nk ct dA fW gZ f6 y0 y1 y2 y3 y4;have z33:=mo.frozen 6;have d33:w9.cell? ⟨a1,6,none⟩=some (.slice B m c):=(mo.cell 6).trans rfl;have bp:Blk (w9.setCell ⟨a1,6,none⟩ (.slice A2 (m+1) c2)) a1 32 #[.int .i64 3,.int .i64 (f:Int),.int .i64 0,.int .i64 0,.bool false,.int .i64 0,.slice A2 (m+1) c2,.bool false]:=mo.set_ 6 _;have tB:Below (rb+1) w9 (w9.setCell ⟨a1,6,none⟩ (.slice A2 (m+1) c2)):=(Below.refl _ _).setCell (p:=⟨a1,6,none⟩) am _;have Ew:Below w.heap.size w9 (w9.setCell ⟨a1,6,none⟩ (.slice A2 (m+1) c2)):=(Below.refl _ _).setCell (p:=⟨a1,6,none⟩) aW _;have bG:=rU.far (p:=⟨a1,6,none⟩) (by simp only;omega) (.slice A2 (m+1) c2);have gq:=h9.over tB;have fq:=hR9.farSet (g:=a1) 6 (.slice A2 (m+1) c2) (fun k hk=>by have:=(hR9.lt k hk).1;omega);have kH:=zAc g9 Ew;clear h9 g9 rU mo hR9 tB Ew;go_upto_region 19 with fail
      clear z33 d33;generalize w9.setCell ⟨a1,6,none⟩ (.slice A2 (m+1) c2)=X34 at gq kH bG bp fq ⊢;go_cut [72] (fun _ wv=>∃X:World,X=wv∧RX X rb F sc∧Blk X w.heap.size 32 #[.int .i64 0,.int .i64 0,.int .i64 0,.int .i64 0,.bool false,.int .i64 0,.slice none 0 0,.bool false]∧Blk X a1 32 #[.int .i64 3,.int .i64 (f:Int),.int .i64 0,.int .i64 0,.bool false,.int .i64 0,.slice A2 (m+1) c2,.bool false]∧w.grownBy X (some rb)∧Row X (a1+1) 5 A2 (m+1) c2 ((Pi++[(⟨⟨xf,xl,xfar,xpc⟩,ov⟩:Sp)]).flatMap zCa))
      case first =>
       cases hb:sb.bad with
       | true =>
        have c4:X34.cell? ⟨rb,4,none⟩=some (.bool true):=by rw [←hb];exact gq.bad4.1
        have z4:=gq.bad4.2;have hm:=gq.marked false true (by rw [hb];rfl);have HZ:=qH (show RX (X34.setCell ⟨rb,4,none⟩ (.bool true)) rb F sc∧Blk (X34.setCell ⟨rb,4,none⟩ (.bool true)) w.heap.size 32 #[.int .i64 0,.int .i64 0,.int .i64 0,.int .i64 0,.bool false,.int .i64 0,.slice none 0 0,.bool false]∧Blk (X34.setCell ⟨rb,4,none⟩ (.bool true)) a1 32 #[.int .i64 3,.int .i64 (f:Int),.int .i64 0,.int .i64 0,.bool false,.int .i64 0,.slice A2 (m+1) c2,.bool false]∧w.grownBy (X34.setCell ⟨rb,4,none⟩ (.bool true)) (some rb)∧Row (X34.setCell ⟨rb,4,none⟩ (.bool true)) (a1+1) 5 A2 (m+1) c2 ((Pi++[(⟨⟨xf,xl,xfar,xpc⟩,ov⟩:Sp)]).flatMap zCa) from ⟨by rw [←EC.out,zET [44] hb];exact hm.1,bG.grownO hm.2 au,bp.grownO hm.2 am,zAb kH hm.2,fq.overO hm.2 (by omega)⟩);clear hm hb gq kH bG bp fq;go_wp2_with fail
        go_meet
        case rel=>exact ⟨_,rfl,HZ.out⟩
       | false =>
        obtain ⟨ib,eib⟩:∃b,isB sb.T [44]=b:=⟨_,rfl⟩
        have c4:X34.cell? ⟨rb,4,none⟩=some (.bool false):=by rw [←hb];exact gq.bad4.1
        have z4:=gq.bad4.2;have HI:=qH (zNy gq [44]);rw [eib] at HI;have HE:=qH (show (sb.is [44]).mark (!ib)=sc by rw [←EC.out,zDS [44] hb,eib]);have HB:=qH hb;clear eib hb;go_wp2_with fail
        refine HI.out.mono ?_;rintro e Y ⟨rfl,hy,qy⟩;have me:=bG.grownO qy au;have md:=bp.grownO qy am;have oQ:=fq.overO qy (by omega);have yn:=zAb kH qy;have c5:Y.cell? ⟨rb,4,none⟩=some (.bool false):=by rw [←HB.out];exact hy.bad4.1
        have z5:=hy.bad4.2;have hm:=fun q (hq:q = !ib)=>hy.marked (!ib) q (by rw [show (sb.is [44]).bad=false from HB.out];exact hq)
        have HZ:=qH (fun (q:Bool) (hq:q = !ib)=>(show RX (Y.setCell ⟨rb,4,none⟩ (.bool q)) rb F sc∧Blk (Y.setCell ⟨rb,4,none⟩ (.bool q)) w.heap.size 32 #[.int .i64 0,.int .i64 0,.int .i64 0,.int .i64 0,.bool false,.int .i64 0,.slice none 0 0,.bool false]∧Blk (Y.setCell ⟨rb,4,none⟩ (.bool q)) a1 32 #[.int .i64 3,.int .i64 (f:Int),.int .i64 0,.int .i64 0,.bool false,.int .i64 0,.slice A2 (m+1) c2,.bool false]∧w.grownBy (Y.setCell ⟨rb,4,none⟩ (.bool q)) (some rb)∧Row (Y.setCell ⟨rb,4,none⟩ (.bool q)) (a1+1) 5 A2 (m+1) c2 ((Pi++[(⟨⟨xf,xl,xfar,xpc⟩,ov⟩:Sp)]).flatMap zCa) from ⟨by rw [←HE.out];exact (hm q hq).1,me.grownO (hm q hq).2 au,md.grownO (hm q hq).2 am,zAb yn (hm q hq).2,oQ.overO (hm q hq).2 (by omega)⟩));clear hm qy HI HE HB c4 z4 hy yn me md oQ gq kH bG bp fq
        cases ib
        all_goals
         go_wp2_with fail
         go_meet
         case rel=>exact ⟨_,rfl,HZ.out _ rfl⟩
      case rest =>
       clear gq kH bG bp fq;obtain ⟨nr,hX,sP,aL,fo,vV,kC⟩:=hcut;subst hX
       cases hbad:sc.bad with
       | true =>
        have c9:nr.cell? ⟨rb,4,none⟩=some (.bool true):=by rw [←hbad];exact sP.bad4.1
        have HE:=qH (show zBF F.L 3 f s4=(⟨3,f,s0,Pi++[(⟨⟨xf,xl,xfar,xpc⟩,ov⟩:Sp)],false⟩,sc) by unfold zBF;rw [if_neg (by omega),if_pos rfl,←yY.out,if_pos hbad]);clear hbad;go_wp2_with fail
        rw [zJc];clear c9;obtain ⟨f0,f1,f2,f3,f4,f5,f6,f7⟩:=cQ8 fo;have y0:nr.cell? ⟨w.heap.size,0,none⟩=some (.int .i64 0):=(aL.cell 0).trans rfl;have jR:=aL.frozen 0;have y1:nr.cell? ⟨w.heap.size,1,none⟩=some (.int .i64 0):=(aL.cell 1).trans rfl;have jQ:=aL.frozen 1;have y2:nr.cell? ⟨w.heap.size,2,none⟩=some (.int .i64 0):=(aL.cell 2).trans rfl;have ln:=aL.frozen 2;have y3:nr.cell? ⟨w.heap.size,3,none⟩=some (.int .i64 0):=(aL.cell 3).trans rfl;have ll:=aL.frozen 3;have y4:nr.cell? ⟨w.heap.size,4,none⟩=some (.bool false):=(aL.cell 4).trans rfl;have lk:=aL.frozen 4;have y5:nr.cell? ⟨w.heap.size,5,none⟩=some (.int .i64 0):=(aL.cell 5).trans rfl;have lj:=aL.frozen 5;have y6:nr.cell? ⟨w.heap.size,6,none⟩=some (.slice none 0 0):=(aL.cell 6).trans rfl;have li:=aL.frozen 6;have y7:nr.cell? ⟨w.heap.size,7,none⟩=some (.bool false):=(aL.cell 7).trans rfl;have lh:=aL.frozen 7;have hS:=aL.store8 (.int .i64 3) (.int .i64 (f:Int)) (.int .i64 0) (.int .i64 0) (.bool false) (.int .i64 0) (.slice A2 (m+1) c2) (.bool false);have bS:=zAd (Below.refl (rb+1) nr) (show rb+1≤w.heap.size from au) (.int .i64 3) (.int .i64 (f:Int)) (.int .i64 0) (.int .i64 0) (.bool false) (.int .i64 0) (.slice A2 (m+1) c2) (.bool false);have kP:=zAd (Below.refl w.heap.size nr) eX (.int .i64 3) (.int .i64 (f:Int)) (.int .i64 0) (.int .i64 0) (.bool false) (.int .i64 0) (.slice A2 (m+1) c2) (.bool false);have hX:=sP.over bS;have gX:=zAc vV kP;have hE:=kC.store8  (show w.heap.size < a1+1 by omega) (.int .i64 3) (.int .i64 (f:Int)) (.int .i64 0) (.int .i64 0) (.bool false) (.int .i64 0) (.slice A2 (m+1) c2) (.bool false);go_wp2_with fail
        exact zAu rfl rfl hS Tryz.underlying32 rfl (by kernel_rfl) rfl (fm.out ⟨3,f,s0,Pi++[(⟨⟨xf,xl,xfar,xpc⟩,ov⟩:Sp)],false⟩ sc HE.out _ A2 (m+1) c2 (hE.mono (by omega)) (by rw [AK.out];simp) hX gX)
       | false =>
        have c9:nr.cell? ⟨rb,4,none⟩=some (.bool false):=by rw [←hbad];exact sP.bad4.1
        have HL:=qH (mO.out hbad);have HF:=qH (show zUi w rb a1 F f s4 nr sc (Pi++[(⟨⟨xf,xl,xfar,xpc⟩,ov⟩:Sp)]) A2 (m+1) c2 N from ⟨sP,aL,fo,vV,kC,by rw [AK.out];simp,by have:=HL.out;have:=iI.out;omega,by have:=HL.out;have:=Dw.out;omega,by rw [←yY.out,hbad];rfl⟩);clear hbad sP vV aL fo kC;go_wp2_with fail
        go_step3
        refine zLz ⟨rfl,_,HL.out,_,sc,_,A2,m+1,c2,N,⟨rfl,rfl,rfl,rfl,rfl⟩,rfl,rfl,HF⟩
    exact absurd HW.out (by omega)
end Go.Proofs.YtlmdfmnbcndhoaaGreatDoor
