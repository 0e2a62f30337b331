/-
  Lemmas, part 19. Conditions: each theorem's own.
-/
import Derived.Test.YtlmdfmnbcndhoaaGreatDoorRq17
open Go.Value renaming bool→G,int→D,slice→H
open Go.IntKind renaming i64→J
open Option renaming none→U,some→Z
open Bool renaming false→E,true→Q
namespace Go.Proofs.YtlmdfmnbcndhoaaGreatDoor
open Go.RowKit
def kTo (K:Int) (k:Nat):Int:=if K < (k:Int) then K else 0
theorem zFy {s:RS} (ZR:List UInt8) (h:s.bad=Q):s.must ZR=s.mark E:=by
 obtain ⟨T,bad,lost⟩:=s;simp only at h;subst h;rfl
theorem zEs {s:RS} (ZR:List UInt8) (h:s.bad=E):s.must ZR=(s.is ZR).mark (!isB s.T ZR):=by
 unfold RS.must;rw [if_neg (by rw [h];simp)]
theorem zJG (ZY:Nat→Act→World→Prop) (ZS:Exit→Act→World→Prop) (a:Act) (w:World):zEb ZY ZS .normal a w=ZS .normal a w:=rfl
theorem zLW (ZY:Nat→Act→World→Prop) (ZS:Exit→Act→World→Prop) (id:Nat) (a:Act) (w:World):zEb ZY ZS (.exit id) a w=ZS (.exit id) a w:=rfl
theorem zDh (ZY:Nat→Act→World→Prop) (ZS:Exit→Act→World→Prop) (a:Act) (w:World):zEb ZY ZS .ret a w=ZS .ret a w:=rfl
theorem zLX {ZY:Nat→Act→World→Prop} {ZS:Exit→Act→World→Prop} {l:Nat} {a:Act} {w:World} (h:ZY l a w):zEb ZY ZS (.goto l) a w:=h
theorem Row.store8 {w:World} {base g sz:Nat} {A:Option Addr} {n c:Nat} {xs:List Value} (h:Row w base sz A n c xs) (hg:g < base) (u0 u1 u2 u3 u4 u5 u6 u7:Value) :
  Row ((((((((w.setCell ⟨g,0,U⟩ u0).setCell ⟨g,1,U⟩ u1).setCell ⟨g,2,U⟩ u2).setCell ⟨g,3,U⟩ u3).setCell ⟨g,4,U⟩ u4).setCell ⟨g,5,U⟩ u5).setCell ⟨g,6,U⟩ u6).setCell ⟨g,7,U⟩ u7) base sz A n c xs:=by
 have hne:∀(wx:World),Row wx base sz A n c xs→∀k,blk A=Z k→k≠g:=fun wx hx k hk=>by have:=(hx.lt k hk).1;omega
 have h0:=h.farSet 0 u0 (hne _ h);have h1:=h0.farSet 1 u1 (hne _ h0);have h2:=h1.farSet 2 u2 (hne _ h1);have h3:=h2.farSet 3 u3 (hne _ h2);have h4:=h3.farSet 4 u4 (hne _ h3);have h5:=h4.farSet 5 u5 (hne _ h4);have h6:=h5.farSet 6 u6 (hne _ h5);exact h6.farSet 7 u7 (hne _ h6)
theorem zRW {α:Type} (d:α):∀(n:Nat) (l:List α),l.length=n→l=(List.range n).map (fun i=>l.getD i d):=fun n l h=>by
 apply List.ext_getElem?;intro i;by_cases hi:i < n
 ·rw [List.getElem?_map,List.getElem?_range hi,List.getElem?_eq_getElem (by omega)];simp [List.getD,List.getElem?_eq_getElem (show i < l.length by omega)]
 ·rw [List.getElem?_eq_none (by omega),List.getElem?_eq_none (by simp;omega)]
theorem zFz (n:Nat) (t:Array Value) (h:t.size=n):t=⟨(List.range n).map (fun i=>t.getD i undef)⟩:=by
 apply Array.ext';have:=zRW undef n t.toList (by simpa using h);simp only [Array.getD_eq_getD_getElem?];rw [this]
 congr 1
 funext i
 simp [List.getD]
theorem zGT {p:Prop} (h:Hid p):p:=h.out
def zUx (w:World) (rb a1:Nat) (F:Fm) (f:Nat) (s4:RS) (X:World) (si:RS) (Pi:List Sp) (B:Option Addr) (m c N:Nat):Prop :=
 RX X rb F si∧Blk X w.heap.size 32 #[D J 0,D J 0,D J 0,D J 0,G E,D J 0,H U 0 0,G E] ∧
  Blk X a1 32 #[D J 3,D J (f:Int),D J 0,D J 0,G E,D J 0,H B m c,G E]∧w.grownBy X (Z rb)∧Row X (a1+1) 5 B m c (Pi.flatMap zIo)∧m=Pi.length ∧
  m+si.T.length≤s4.T.length∧si.T.length < N∧zDX F.L N si Pi=zDX F.L (s4.T.length+1) s4 []
set_option maxHeartbeats 12800000 in
set_option maxRecDepth 100000 in
theorem zLY (rb:Nat) (F:Fm) (s:RS) (w:World) (h:RX w rb F s) (hT:s.T.length≤100000) (hw:zBQ (xa s.T 0)=3) :
  Calls Tryz.prog 98 #[.pointer (Z ⟨rb,0,U⟩)] w (zET w rb F (opR F.L s).1 (opR F.L s).2):=by
 obtain ⟨S0,eR⟩:∃S,xa s.T 0=S:=⟨_,rfl⟩
 obtain ⟨s1,e1⟩:∃x,s.next=x:=⟨_,rfl⟩
 obtain ⟨K,eK⟩:∃x,zBQ S0=x:=⟨_,rfl⟩
 obtain ⟨s2,e2⟩:∃x,s1.mark (decide (K=0))=x:=⟨_,rfl⟩
 obtain ⟨S1,jn⟩:∃S,xa s2.T 0=S:=⟨_,rfl⟩
 obtain ⟨s3,e3⟩:∃x,s2.next=x:=⟨_,rfl⟩
 obtain ⟨s4,e4⟩:∃x,s3.fing F.L S1=x:=⟨_,rfl⟩
 obtain ⟨f,efi⟩:∃x,zEy F.L S1=x:=⟨_,rfl⟩
 obtain ⟨b,eb⟩:∃b,s1.bad=b:=⟨_,rfl⟩
 have cQ:xa s.T.tail 0=S1:=by rw [←jn,←e2,←e1];rfl
 have tF:s4.T.length≤100000:=by
  rw [←e4,←e3,←e2,←e1];simp only [RS.fing,RS.next,RS.mark,List.length_tail];omega
 have HR:=qH (show opR F.L s=zBV F.L K f s4 by
  have hp:zFu F.L s=s4:=by
   unfold zFu
   rw [eR,cQ,e1,eK,e2,e3,e4]
  unfold opR
  rw [hp,eR,cQ,eK,efi])
 have hK:0≤K∧K≤8:=by
  by_cases e:K=0
  ·omega
  ·have:=zHQ (v:=S0) (by rw [eK];exact e);rw [eK] at this;omega
 have rl:=qH (fun (k:Nat) (h1:1≤k) (h8:k≤8)=>(show ((bA (zBk (k:Int))).toList==(bA S0).toList)=decide (K=(k:Int)) by
  rw [zAo,zAo,←eK];exact zGi h1 h8 S0))
 have H1:=qH (fun wx (hx:RX wx rb F s)=>zCD hx);have H2:=qH (fun wx (hx:RX wx rb F s2)=>zCD hx);have H3:=qH (fun wx (hx:RX wx rb F s3)=>zCE hx S1)
 have HM:=qH (fun wx (hx:RX wx rb F s1)=>(show wx.cell? ⟨rb,4,U⟩=Z (G b)∧wx.frozen? ⟨rb,4,U⟩=E∧∀q,q=(b||decide (K=0))→RX (wx.setCell ⟨rb,4,U⟩ (G q)) rb F s2∧wx.grownBy (wx.setCell ⟨rb,4,U⟩ (G q)) (Z rb) from
  ⟨by rw [←eb];exact hx.bad4.1,hx.bad4.2,fun q hq=>by rw [←e2];exact hx.marked (decide (K=0)) q (by rw [eb];exact hq)⟩))
 simp only [eR,e1] at H1;simp only [jn,e3] at H2;simp only [efi,e4] at H3;rw [HR.out];have HW:Hid (K=3):=qH (by rw [←eK,←eR];exact hw);have hlt:=h.lt
 have eM:=qH (fun (o:Og) (st:RS) (he:zBV F.L K f s4=(o,st)) (wx:World) (B:Option Addr) (m d:Nat) (hrow:Row wx w.heap.size 5 B m d (o.path.flatMap zIo)) (hm:m=o.path.length) (hx:RX wx rb F st) (hg:w.grownBy wx (Z rb)) =>
  (show zET w rb F (zBV F.L K f s4).1 (zBV F.L K f s4).2 (.returned (opV o B m d)) wx from by rw [he];exact ⟨B,m,d,rfl,hrow,hm,hx,hg⟩))
 clear eR e1 e2 jn e3 e4 efi eb eK cQ HR hT hw;have b1:Below w.heap.size w ((w.alloc (.cells #[D J 0,D J 0,D J 0,D J 0,G E,D J 0,H U 0 0,G E] 32)).alloc (.cells #[D J 0,D J 0,D J 0,D J 0,G E,D J 0,H U 0 0,G E] 32)):=((Below.refl _ _).alloc (Nat.le_refl _) _).alloc (by simp) _;have cw:Blk ((w.alloc (.cells #[D J 0,D J 0,D J 0,D J 0,G E,D J 0,H U 0 0,G E] 32)).alloc (.cells #[D J 0,D J 0,D J 0,D J 0,G E,D J 0,H U 0 0,G E] 32)) w.heap.size 32 #[D J 0,D J 0,D J 0,D J 0,G E,D J 0,H U 0 0,G E]:=(Blk.new w _ _).alloc _;have bz:Blk ((w.alloc (.cells #[D J 0,D J 0,D J 0,D J 0,G E,D J 0,H U 0 0,G E] 32)).alloc (.cells #[D J 0,D J 0,D J 0,D J 0,G E,D J 0,H U 0 0,G E] 32)) (w.heap.size+1) 32 #[D J 0,D J 0,D J 0,D J 0,G E,D J 0,H U 0 0,G E]:=by have:=Blk.new (w.alloc (.cells #[D J 0,D J 0,D J 0,D J 0,G E,D J 0,H U 0 0,G E] 32)) 32 #[D J 0,D J 0,D J 0,D J 0,G E,D J 0,H U 0 0,G E];rwa [World.size_alloc] at this
 have h1:=h.below b1;have g1:w.grownBy ((w.alloc (.cells #[D J 0,D J 0,D J 0,D J 0,G E,D J 0,H U 0 0,G E] 32)).alloc (.cells #[D J 0,D J 0,D J 0,D J 0,G E,D J 0,H U 0 0,G E] 32)) (Z rb):=zAt b1;have ak:rb < w.heap.size:=hlt;have ae:rb < w.heap.size+1:=by omega
 have dq:w.heap.size≤w.heap.size:=Nat.le_refl _;have aA:w.heap.size≤w.heap.size+1:=by omega
 clear h b1;obtain ⟨a1,bB⟩:∃a,a=w.heap.size+1:=⟨_,rfl⟩
 have gz:w.heap.size < a1:=by omega
 go_enter Tryz.func98,Tryz.ntmps98;go_wp2_with fail
 generalize ((w.alloc (.cells #[D J 0,D J 0,D J 0,D J 0,G E,D J 0,H U 0 0,G E] 32)).alloc (.cells #[D J 0,D J 0,D J 0,D J 0,G E,D J 0,H U 0 0,G E] 32))=X1 at cw bz h1 g1 ⊢;rw [←bB] at bz ae aA ⊢;clear bB;refine (H1.out X1 h1).mono ?_;rintro e wJ ⟨rfl,mW,fV⟩;have cK:=cw.grownO fV ak;have cJ:=bz.grownO fV ae;have m8:=zAb g1 fV;clear h1 g1 cw bz fV H1;go_wp2_with fail
 go_loopw [5] (fun v wv=>∃(k:Nat) (X:World),X=wv∧1≤k∧k≤9∧v=D J k∧Hid (RX X rb F s1∧Blk X w.heap.size 32 #[D J 0,D J 0,D J 0,D J 0,G E,D J 0,H U 0 0,G E]∧Blk X a1 32 #[D J (kTo K k),D J 0,D J 0,D J 0,G E,D J 0,H U 0 0,G E]∧w.grownBy X (Z rb))) (fun v _=>9-(intOf v).toNat)
 case atStart=>exact ⟨1,_,rfl,by omega,by omega,rfl,qH (by rw [show kTo K 1=0 from by unfold kTo;split<;>omega];exact ⟨mW,cK,cJ,m8⟩)⟩
 case round =>
  clear mW m8 cK cJ;obtain ⟨k,X,hX,ag,eV,rfl,HX⟩:=hrel;subst hX;by_cases hk:k≤8
  ·have i1:(k:Int)≤8:=by omega
   have n0:=rl.out k ag hk;by_cases hq:K=(k:Int)
   ·obtain ⟨qV,cI,aV,rc⟩:=HX.out;rw [decide_eq_true hq] at n0;have C6:=aV.frozen 0;have EN:X.cell? ⟨a1,0,U⟩=Z (D J (kTo K k)):=(aV.cell 0).trans rfl;have cG:Blk (X.setCell ⟨a1,0,U⟩ (D J (k:Int))) a1 32 #[D J (k:Int),D J 0,D J 0,D J 0,G E,D J 0,H U 0 0,G E]:=aV.set_ 0 _;have pm:Below (rb+1) X (X.setCell ⟨a1,0,U⟩ (D J (k:Int))):=(Below.refl _ _).setCell (p:=⟨a1,0,U⟩) ae _;have pY:Below w.heap.size X (X.setCell ⟨a1,0,U⟩ (D J (k:Int))):=(Below.refl _ _).setCell (p:=⟨a1,0,U⟩) aA _;have cH:=cI.far (p:=⟨a1,0,U⟩) (by simp only;omega) (D J (k:Int));have qU:=qV.over pm;have qZ:=zAd rc pY;clear qV rc cI aV pm pY;have HF:=qH (show kTo K (k+1)=(k:Int) by unfold kTo;rw [if_pos (by omega)];exact hq);have HZ:=qH (show RX (X.setCell ⟨a1,0,U⟩ (D J (k:Int))) rb F s1∧Blk (X.setCell ⟨a1,0,U⟩ (D J (k:Int))) w.heap.size 32 #[D J 0,D J 0,D J 0,D J 0,G E,D J 0,H U 0 0,G E]∧Blk (X.setCell ⟨a1,0,U⟩ (D J (k:Int))) a1 32 #[D J (k:Int),D J 0,D J 0,D J 0,G E,D J 0,H U 0 0,G E]∧w.grownBy (X.setCell ⟨a1,0,U⟩ (D J (k:Int))) (Z rb) from ⟨qU,cH,cG,qZ⟩);clear HX hq qU qZ cH cG;go_wp2_with (first | (go_at_call 106;refine (zCc (k:Int) (by omega) (by omega) _).mono ?_;rintro e wq ⟨rfl,rfl⟩))
    go_roundw
    case rel=>exact ⟨k+1,_,rfl,by omega,by omega,by go_num,qH (by rw [HF.out];exact HZ.out)⟩
    case measure=>simp [intOf];omega
   ·rw [decide_eq_false hq] at n0;have HF:=qH (show kTo K (k+1)=kTo K k by unfold kTo;split<;>split<;>omega);clear hq;go_wp2_with (first | (go_at_call 106;refine (zCc (k:Int) (by omega) (by omega) _).mono ?_;rintro e wq ⟨rfl,rfl⟩))
    go_roundw
    case rel=>exact ⟨k+1,_,rfl,by omega,by omega,by go_num,qH (by rw [HF.out];exact HX.out)⟩
    case measure=>simp [intOf];omega
  ·have i1:¬(k:Int)≤8:=by omega
   obtain ⟨qT,cF,aU,qY⟩:=HX.out;rw [show kTo K k=K from by unfold kTo;rw [if_pos (by omega)]] at aU;obtain ⟨c4,z4,hm⟩:=HM.out X qT;have HZ:=qH (fun (q:Bool) hq=>(show RX (X.setCell ⟨rb,4,U⟩ (G q)) rb F s2∧Blk (X.setCell ⟨rb,4,U⟩ (G q)) w.heap.size 32 #[D J 0,D J 0,D J 0,D J 0,G E,D J 0,H U 0 0,G E]∧Blk (X.setCell ⟨rb,4,U⟩ (G q)) a1 32 #[D J K,D J 0,D J 0,D J 0,G E,D J 0,H U 0 0,G E]∧w.grownBy (X.setCell ⟨rb,4,U⟩ (G q)) (Z rb) from ⟨(hm q hq).1,cF.grownO (hm q hq).2 ak,aU.grownO (hm q hq).2 ae,zAb qY (hm q hq).2⟩));have f0:X.cell? ⟨a1,0,U⟩=Z (D J K):=(aU.cell 0).trans rfl;clear hm HM HX rl qT qY cF aU;obtain ⟨q0,mE⟩:∃q,decide (K=0)=q:=⟨_,rfl⟩
   have i2:(K==0)=q0:=by rw [←mE];by_cases e:K=0<;>simp [e]
   rw [mE] at HZ;clear mE;go_upto_region 8 with fail
   go_cut [29] (fun _ wv=>∃X:World,X=wv∧RX X rb F s2∧Blk X w.heap.size 32 #[D J 0,D J 0,D J 0,D J 0,G E,D J 0,H U 0 0,G E]∧Blk X a1 32 #[D J K,D J 0,D J 0,D J 0,G E,D J 0,H U 0 0,G E]∧w.grownBy X (Z rb))
   case first =>
    cases b<;>cases q0
    all_goals
     go_wp2_with fail
     go_meet
     case rel=>exact ⟨_,rfl,HZ.out _ rfl⟩
   case rest =>
    clear c4 z4 HZ f0 i2;obtain ⟨X,hX,qS,cE,cD,qX⟩:=hcut;subst hX;go_wp2_with fail
    refine (H2.out X qS).mono ?_;rintro e wI ⟨rfl,qR,gp⟩;have cB:=cE.grownO gp ak;have cA:=cD.grownO gp ae;have qW:=zAb qX gp;clear qS qX cE cD gp H2;go_wp2_with fail
    refine (H3.out wI qR).mono ?_;rintro e eI ⟨rfl,qQ,fU⟩;have cz:=cB.grownO fU ak;have aT:=cA.grownO fU ae;have g17:=zAb qW fU;clear qR qW cB cA fU H3;have ur:=aT.frozen 1;have wG:eI.cell? ⟨a1,1,U⟩=Z (D J 0):=(aT.cell 1).trans rfl;have bs:Blk (eI.setCell ⟨a1,1,U⟩ (D J (f:Int))) a1 32 #[D J K,D J (f:Int),D J 0,D J 0,G E,D J 0,H U 0 0,G E]:=aT.set_ 1 _;have nK:Below (rb+1) eI (eI.setCell ⟨a1,1,U⟩ (D J (f:Int))):=(Below.refl _ _).setCell (p:=⟨a1,1,U⟩) ae _;have pX:Below w.heap.size eI (eI.setCell ⟨a1,1,U⟩ (D J (f:Int))):=(Below.refl _ _).setCell (p:=⟨a1,1,U⟩) aA _;have bt:=cz.far (p:=⟨a1,1,U⟩) (by simp only;omega) (D J (f:Int));have mV:=qQ.over nK;have g18:=zAd g17 pX;clear qQ g17 cz aT nK pX;go_upto_region 10 with fail
    clear ur wG;generalize eI.setCell ⟨a1,1,U⟩ (D J (f:Int))=X9 at mV g18 bt bs ⊢;have HA:=qH (show RX X9 rb F s4∧Blk X9 w.heap.size 32 #[D J 0,D J 0,D J 0,D J 0,G E,D J 0,H U 0 0,G E]∧Blk X9 a1 32 #[D J K,D J (f:Int),D J 0,D J 0,G E,D J 0,H U 0 0,G E]∧w.grownBy X9 (Z rb) from ⟨mV,bt,bs,g18⟩);clear mV g18 bt bs;by_cases n4:K=4
    ·subst n4;exact absurd HW.out (by omega)
    by_cases n5:K=5
    ·subst n5;exact absurd HW.out (by omega)
    by_cases n6:K=6
    ·subst n6;exact absurd HW.out (by omega)
    by_cases n7:K=7
    ·subst n7;exact absurd HW.out (by omega)
    by_cases n3:K=3
    ·subst n3;obtain ⟨jk,br,aS,mY⟩:=HA.out;clear HA;have f0:X9.cell? ⟨a1,0,U⟩=Z (D J 3):=(aS.cell 0).trans rfl;have ET:=qH (show zUx w rb a1 F f s4 X9 s4 [] U 0 0 (s4.T.length+1) from ⟨jk,br,aS,mY,Row.none_ _ _ _,rfl,by omega,by omega,rfl⟩);go_wp2_with fail
     clear f0 jk mY br aS;refine zIp 0 s4.T.length (fun n a wv=>∃(X:World) (si:RS) (Pi:List Sp) (B:Option Addr) (m c N:Nat),(a.tmps.size=129∧a.tmps.getD 0 undef=.pointer (Z ⟨rb,0,U⟩)∧a.tmps.getD 2 undef=.pointer (Z ⟨w.heap.size,0,U⟩)∧a.tmps.getD 3 undef=.pointer (Z ⟨a1,0,U⟩)∧a.defers=[])∧X=wv∧n=si.T.length∧Hid (zUx w rb a1 F f s4 X si Pi B m c N)) ?_ ?_
     ·exact ⟨_,s4,[],U,0,0,_,⟨rfl,rfl,rfl,rfl,rfl⟩,rfl,rfl,ET⟩
     clear ET;rintro n ⟨tm,df⟩ X ⟨X0,si,Pi,B,m,c,N,⟨hs,t0,t2,t3,hd⟩,hX,hn,HJ⟩;subst hX;subst hn;simp only at hs t0 t2 t3 hd;subst hd;obtain ⟨v,hv⟩:∃v:Nat→Value,tm=#[.pointer (Z ⟨rb,0,U⟩),v 1,.pointer (Z ⟨w.heap.size,0,U⟩),.pointer (Z ⟨a1,0,U⟩),v 4,v 5,v 6,v 7,v 8,v 9,v 10,v 11,v 12,v 13,v 14,v 15,v 16,v 17,v 18,v 19,v 20,v 21,v 22,v 23,v 24,v 25,v 26,v 27,v 28,v 29,v 30,v 31,v 32,v 33,v 34,v 35,v 36,v 37,v 38,v 39,v 40,v 41,v 42,v 43,v 44,v 45,v 46,v 47,v 48,v 49,v 50,v 51,v 52,v 53,v 54,v 55,v 56,v 57,v 58,v 59,v 60,v 61,v 62,v 63,v 64,v 65,v 66,v 67,v 68,v 69,v 70,v 71,v 72,v 73,v 74,v 75,v 76,v 77,v 78,v 79,v 80,v 81,v 82,v 83,v 84,v 85,v 86,v 87,v 88,v 89,v 90,v 91,v 92,v 93,v 94,v 95,v 96,v 97,v 98,v 99,v 100,v 101,v 102,v 103,v 104,v 105,v 106,v 107,v 108,v 109,v 110,v 111,v 112,v 113,v 114,v 115,v 116,v 117,v 118,v 119,v 120,v 121,v 122,v 123,v 124,v 125,v 126,v 127,v 128]:=⟨fun i=>tm.getD i undef,by rw [←t0,←t2,←t3];exact zFz 129 tm hs⟩
     subst hv;clear hs t0 t2 t3;obtain ⟨ir,al,aw,it,iG,hm,hle,hN,hpk⟩:=HJ.out;obtain ⟨N,rfl⟩:∃n',N=n'+1:=⟨N-1,by omega⟩
     rw [zDX] at hpk;have ub:=qH (fun wx (hx:RX wx rb F si)=>zOc hx zAT)
     cases hib:isB si.T zAT with
     | true =>
      obtain ⟨sj,ej⟩:∃x,si.is zAT=x:=⟨_,rfl⟩
      obtain ⟨⟨xf,xl,xfar,xpc⟩,ex⟩:∃x,(zAV F.L sj).1=x:=⟨_,rfl⟩
      obtain ⟨se,ee⟩:∃x,(zAV F.L sj).2=x:=⟨_,rfl⟩
      have HE:=qH (show zBV F.L 3 f s4=(⟨3,f,⟨xf,xl,xfar,xpc⟩,Pi,E⟩,se) by unfold zBV;rw [if_neg (by omega),if_pos rfl,←hpk,if_pos hib,ej,ex,ee]);have bY:=qH (fun wx (hx:RX wx rb F sj)=>zEa rb F sj wx hx);simp only [ex,ee] at bY;simp only [hib,ej] at ub;have yu:=qH hm;clear hib ej ex ee hpk HJ hN hm hle;go_wp2_with fail
      refine (ub.out X0 ir).mono ?_;rintro e iu ⟨rfl,kK,fC⟩;have eu:=al.grownO fC ak;have cX:=aw.grownO fC ae;have uw:=iG.overO fC (by omega);have kO:=zAb it fC;clear ir it al aw iG fC ub;go_wp2_with fail
      refine (bY.out iu kK).mono ?_;rintro e dU ⟨rfl,dc,jG⟩;have ax:=eu.grownO jG ak;have aX:=cX.grownO jG ae;have rp:=uw.overO jG (by omega);have dA:=zAb kO jG;clear kK kO eu cX uw jG bY;have ul:=aX.frozen 2;have wB:dU.cell? ⟨a1,2,U⟩=Z (D J 0):=(aX.cell 2).trans rfl;have uk:=aX.frozen 3;have wA:dU.cell? ⟨a1,3,U⟩=Z (D J 0):=(aX.cell 3).trans rfl;have uj:=aX.frozen 4;have ww:dU.cell? ⟨a1,4,U⟩=Z (G E):=(aX.cell 4).trans rfl;have ui:=aX.frozen 5;have wu:dU.cell? ⟨a1,5,U⟩=Z (D J 0):=(aX.cell 5).trans rfl;have qv:Blk (dU.setCell ⟨a1,2,U⟩ (D J xf)) a1 32 #[D J 3,D J (f:Int),D J xf,D J 0,G E,D J 0,H B m c,G E]:=aX.set_ 2 _;have pd:Below (rb+1) dU (dU.setCell ⟨a1,2,U⟩ (D J xf)):=(Below.refl _ _).setCell (p:=⟨a1,2,U⟩) ae _;have pM:Below w.heap.size dU (dU.setCell ⟨a1,2,U⟩ (D J xf)):=(Below.refl _ _).setCell (p:=⟨a1,2,U⟩) aA _;have gw:=ax.far (p:=⟨a1,2,U⟩) (by simp only;omega) (D J xf);have iN:=rp.farSet (g:=a1) 2 (D J xf) (fun k hk=>by have:=(rp.lt k hk).1;omega);have qu:Blk ((dU.setCell ⟨a1,2,U⟩ (D J xf)).setCell ⟨a1,3,U⟩ (D J xl)) a1 32 #[D J 3,D J (f:Int),D J xf,D J xl,G E,D J 0,H B m c,G E]:=qv.set_ 3 _;have pb:Below (rb+1) dU ((dU.setCell ⟨a1,2,U⟩ (D J xf)).setCell ⟨a1,3,U⟩ (D J xl)):=pd.setCell (p:=⟨a1,3,U⟩) ae _;have pL:Below w.heap.size dU ((dU.setCell ⟨a1,2,U⟩ (D J xf)).setCell ⟨a1,3,U⟩ (D J xl)):=pM.setCell (p:=⟨a1,3,U⟩) aA _;have gv:=gw.far (p:=⟨a1,3,U⟩) (by simp only;omega) (D J xl);have iM:=iN.farSet (g:=a1) 3 (D J xl) (fun k hk=>by have:=(iN.lt k hk).1;omega);have qt:Blk (((dU.setCell ⟨a1,2,U⟩ (D J xf)).setCell ⟨a1,3,U⟩ (D J xl)).setCell ⟨a1,4,U⟩ (G xfar)) a1 32 #[D J 3,D J (f:Int),D J xf,D J xl,G xfar,D J 0,H B m c,G E]:=qu.set_ 4 _;have o9:Below (rb+1) dU (((dU.setCell ⟨a1,2,U⟩ (D J xf)).setCell ⟨a1,3,U⟩ (D J xl)).setCell ⟨a1,4,U⟩ (G xfar)):=pb.setCell (p:=⟨a1,4,U⟩) ae _;have pK:Below w.heap.size dU (((dU.setCell ⟨a1,2,U⟩ (D J xf)).setCell ⟨a1,3,U⟩ (D J xl)).setCell ⟨a1,4,U⟩ (G xfar)):=pL.setCell (p:=⟨a1,4,U⟩) aA _;have gu:=gv.far (p:=⟨a1,4,U⟩) (by simp only;omega) (G xfar);have iL:=iM.farSet (g:=a1) 4 (G xfar) (fun k hk=>by have:=(iM.lt k hk).1;omega);have qr:Blk ((((dU.setCell ⟨a1,2,U⟩ (D J xf)).setCell ⟨a1,3,U⟩ (D J xl)).setCell ⟨a1,4,U⟩ (G xfar)).setCell ⟨a1,5,U⟩ (D J xpc)) a1 32 #[D J 3,D J (f:Int),D J xf,D J xl,G xfar,D J xpc,H B m c,G E]:=qt.set_ 5 _;have o8:Below (rb+1) dU ((((dU.setCell ⟨a1,2,U⟩ (D J xf)).setCell ⟨a1,3,U⟩ (D J xl)).setCell ⟨a1,4,U⟩ (G xfar)).setCell ⟨a1,5,U⟩ (D J xpc)):=o9.setCell (p:=⟨a1,5,U⟩) ae _;have pJ:Below w.heap.size dU ((((dU.setCell ⟨a1,2,U⟩ (D J xf)).setCell ⟨a1,3,U⟩ (D J xl)).setCell ⟨a1,4,U⟩ (G xfar)).setCell ⟨a1,5,U⟩ (D J xpc)):=pK.setCell (p:=⟨a1,5,U⟩) aA _;have an:=gu.far (p:=⟨a1,5,U⟩) (by simp only;omega) (D J xpc);have mj:=iL.farSet (g:=a1) 5 (D J xpc) (fun k hk=>by have:=(iL.lt k hk).1;omega);have vY:=dc.over o8;have wm:=zAd dA pJ;clear dc dA ax aX rp pd pM qv gw iN pb pL qu gv iM o9 pK qt gu iL o8 pJ;go_wp2_with fail
      rw [zLW];clear ul wB uk wA uj ww ui wu;generalize ((((dU.setCell ⟨a1,2,U⟩ (D J xf)).setCell ⟨a1,3,U⟩ (D J xl)).setCell ⟨a1,4,U⟩ (G xfar)).setCell ⟨a1,5,U⟩ (D J xpc))=X24 at vY wm an qr mj ⊢;obtain ⟨f0,f1,f2,f3,f4,f5,f6,f7⟩:=cQ8 qr;have y0:X24.cell? ⟨w.heap.size,0,U⟩=Z (D J 0):=(an.cell 0).trans rfl;have iC:=an.frozen 0;have y1:X24.cell? ⟨w.heap.size,1,U⟩=Z (D J 0):=(an.cell 1).trans rfl;have iB:=an.frozen 1;have y2:X24.cell? ⟨w.heap.size,2,U⟩=Z (D J 0):=(an.cell 2).trans rfl;have jF:=an.frozen 2;have y3:X24.cell? ⟨w.heap.size,3,U⟩=Z (D J 0):=(an.cell 3).trans rfl;have jE:=an.frozen 3;have y4:X24.cell? ⟨w.heap.size,4,U⟩=Z (G E):=(an.cell 4).trans rfl;have jD:=an.frozen 4;have y5:X24.cell? ⟨w.heap.size,5,U⟩=Z (D J 0):=(an.cell 5).trans rfl;have jC:=an.frozen 5;have y6:X24.cell? ⟨w.heap.size,6,U⟩=Z (H U 0 0):=(an.cell 6).trans rfl;have jB:=an.frozen 6;have y7:X24.cell? ⟨w.heap.size,7,U⟩=Z (G E):=(an.cell 7).trans rfl;have jA:=an.frozen 7;have hS:=an.store8 (D J 3) (D J (f:Int)) (D J xf) (D J xl) (G xfar) (D J xpc) (H B m c) (G E);have bS:=zAg (Below.refl (rb+1) X24) (show rb+1≤w.heap.size from ak) (D J 3) (D J (f:Int)) (D J xf) (D J xl) (G xfar) (D J xpc) (H B m c) (G E);have jp:=zAg (Below.refl w.heap.size X24) dq (D J 3) (D J (f:Int)) (D J xf) (D J xl) (G xfar) (D J xpc) (H B m c) (G E);have hX:=vY.over bS;have gX:=zAd wm jp;have hE:=mj.store8  (show w.heap.size < a1+1 by omega) (D J 3) (D J (f:Int)) (D J xf) (D J xl) (G xfar) (D J xpc) (H B m c) (G E);go_wp2_with fail
      exact zAH rfl rfl hS Tryz.underlying32 rfl (by kernel_rfl) rfl (eM.out ⟨3,f,⟨xf,xl,xfar,xpc⟩,Pi,E⟩ se HE.out _ B m c (hE.mono (by omega)) yu.out hX gX)
     | false =>
      obtain ⟨ov,eov⟩:∃x,ovT (xa si.T 0)=x:=⟨_,rfl⟩
      obtain ⟨sa,ea⟩:∃x,si.over=x:=⟨_,rfl⟩
      obtain ⟨⟨xf,xl,xfar,xpc⟩,ex⟩:∃x,(zAV F.L sa).1=x:=⟨_,rfl⟩
      obtain ⟨sb,eb⟩:∃x,(zAV F.L sa).2=x:=⟨_,rfl⟩
      obtain ⟨sc,ec⟩:∃x,sb.must [44]=x:=⟨_,rfl⟩
      have ES:zLn F.L si=(⟨⟨xf,xl,xfar,xpc⟩,ov⟩,sc):=by unfold zLn;rw [ea,ex,eb,ec,eov]
      have nH:=qH (fun (hb:sc.bad=E)=>(show sc.T.length < si.T.length by have:=zTq (L:=F.L) (s:=si) (by rw [ES];exact hb);obtain ⟨_,y,_,hT,_⟩:=this;rw [ES] at hT;have:=congrArg List.length hT;simp [stT] at this;omega));have E0:=qH (show (if sc.bad then ((Pi++[(⟨⟨xf,xl,xfar,xpc⟩,ov⟩:Sp)],s0),sc) else zDX F.L N sc (Pi++[(⟨⟨xf,xl,xfar,xpc⟩,ov⟩:Sp)]))=zDX F.L (s4.T.length+1) s4 [] by rw [←hpk,hib,ES];rfl);have bY:=qH (fun wx (hx:RX wx rb F sa)=>zEa rb F sa wx hx);simp only [ex,eb] at bY;have bf:=qH (fun wx (hx:RX wx rb F si)=>zHS hx);simp only [eov,ea] at bf;simp only [hib,zIK hib] at ub;have yu:=qH hm;have fk:=qH hle;have Cl:=qH hN;have hm5:m≤100000:=by omega
      have EC:=qH ec;clear hib eov ea ex eb ec ES hpk HJ hN hm hle;go_wp2_with fail
      refine (ub.out X0 ir).mono ?_;rintro e fZ ⟨rfl,kJ,eU⟩;have eq:=al.grownO eU ak;have cW:=aw.grownO eU ae;have uv:=iG.overO eU (by omega);have kM:=zAb it eU;clear ir it al aw iG eU ub;go_wp2_with fail
      refine (bf.out fZ kJ).mono ?_;rintro e oG ⟨rfl,fR,ij⟩;have ct:=eq.grownO ij ak;have cq:=cW.grownO ij ae;have ro:=uv.overO ij (by omega);have gY:=zAb kM ij;clear kJ kM eq cW uv ij bf;have mT:=fun k hk=>(ro.lt k hk).2
      have go:Below oG.heap.size oG (oG.alloc (.cells #[D J 0,D J 0,G E,D J 0,G ov] 86)):=(Below.refl _ _).alloc (Nat.le_refl _) _;have iV:=ct.below go ct.lt;have iU:=cq.below go cq.lt;have fH:Blk (oG.alloc (.cells #[D J 0,D J 0,G E,D J 0,G ov] 86)) oG.heap.size 86 #[D J 0,D J 0,G E,D J 0,G ov]:=Blk.new _ _ _;have oD:=fR.below go;have iH:=ro.below go;have oE:=zAb gY (zAt (row:=Z rb) go);have fo:=fR.lt;have mp:=ct.lt;have mo:=cq.lt;have gW:=gY.size;clear fR gY ct cq ro go;go_wp2_with fail
      generalize oG.alloc (.cells #[D J 0,D J 0,G E,D J 0,G ov] 86)=oF at oD oE iV iU fH iH ⊢;generalize oG.heap.size=a_st at fH fo gW mp mo mT ⊢;have oC:=mT;clear mT;refine (bY.out oF oD).mono ?_;rintro e aY ⟨rfl,ir,gn⟩;have al:=iV.grownO gn ak;have aw:=iU.grownO gn ae;have bD:=fH.grownO gn fo;have iG:=iH.overO gn (by omega);have it:=zAb oE gn;clear oD oE iV iU fH iH gn bY;have jz:=bD.frozen 0;have kT:aY.cell? ⟨a_st,0,U⟩=Z (D J 0):=(bD.cell 0).trans rfl;have jy:=bD.frozen 1;have kS:aY.cell? ⟨a_st,1,U⟩=Z (D J 0):=(bD.cell 1).trans rfl;have jx:=bD.frozen 2;have kQ:aY.cell? ⟨a_st,2,U⟩=Z (G E):=(bD.cell 2).trans rfl;have jw:=bD.frozen 3;have kP:aY.cell? ⟨a_st,3,U⟩=Z (D J 0):=(bD.cell 3).trans rfl;have gD:Blk (aY.setCell ⟨a_st,0,U⟩ (D J xf)) a_st 86 #[D J xf,D J 0,G E,D J 0,G ov]:=bD.set_ 0 _;have dH:Below (rb+1) aY (aY.setCell ⟨a_st,0,U⟩ (D J xf)):=(Below.refl _ _).setCell (p:=⟨a_st,0,U⟩) fo _;have dL:Below w.heap.size aY (aY.setCell ⟨a_st,0,U⟩ (D J xf)):=(Below.refl _ _).setCell (p:=⟨a_st,0,U⟩) gW _;have ci:=al.far (p:=⟨a_st,0,U⟩) (by simp only;omega) (D J xf);have gt:=aw.far (p:=⟨a_st,0,U⟩) (by simp only;omega) (D J xf);have mh:=iG.farSet (g:=a_st) 0 (D J xf) (fun k hk=>Nat.ne_of_lt (oC k hk));have gC:Blk ((aY.setCell ⟨a_st,0,U⟩ (D J xf)).setCell ⟨a_st,1,U⟩ (D J xl)) a_st 86 #[D J xf,D J xl,G E,D J 0,G ov]:=gD.set_ 1 _;have dG:Below (rb+1) aY ((aY.setCell ⟨a_st,0,U⟩ (D J xf)).setCell ⟨a_st,1,U⟩ (D J xl)):=dH.setCell (p:=⟨a_st,1,U⟩) fo _;have dK:Below w.heap.size aY ((aY.setCell ⟨a_st,0,U⟩ (D J xf)).setCell ⟨a_st,1,U⟩ (D J xl)):=dL.setCell (p:=⟨a_st,1,U⟩) gW _;have cg:=ci.far (p:=⟨a_st,1,U⟩) (by simp only;omega) (D J xl);have gr:=gt.far (p:=⟨a_st,1,U⟩) (by simp only;omega) (D J xl);have mg:=mh.farSet (g:=a_st) 1 (D J xl) (fun k hk=>Nat.ne_of_lt (oC k hk));have gB:Blk (((aY.setCell ⟨a_st,0,U⟩ (D J xf)).setCell ⟨a_st,1,U⟩ (D J xl)).setCell ⟨a_st,2,U⟩ (G xfar)) a_st 86 #[D J xf,D J xl,G xfar,D J 0,G ov]:=gC.set_ 2 _;have dF:Below (rb+1) aY (((aY.setCell ⟨a_st,0,U⟩ (D J xf)).setCell ⟨a_st,1,U⟩ (D J xl)).setCell ⟨a_st,2,U⟩ (G xfar)):=dG.setCell (p:=⟨a_st,2,U⟩) fo _;have dJ:Below w.heap.size aY (((aY.setCell ⟨a_st,0,U⟩ (D J xf)).setCell ⟨a_st,1,U⟩ (D J xl)).setCell ⟨a_st,2,U⟩ (G xfar)):=dK.setCell (p:=⟨a_st,2,U⟩) gW _;have ce:=cg.far (p:=⟨a_st,2,U⟩) (by simp only;omega) (G xfar);have gq:=gr.far (p:=⟨a_st,2,U⟩) (by simp only;omega) (G xfar);have mf:=mg.farSet (g:=a_st) 2 (G xfar) (fun k hk=>Nat.ne_of_lt (oC k hk));have el:Blk ((((aY.setCell ⟨a_st,0,U⟩ (D J xf)).setCell ⟨a_st,1,U⟩ (D J xl)).setCell ⟨a_st,2,U⟩ (G xfar)).setCell ⟨a_st,3,U⟩ (D J xpc)) a_st 86 #[D J xf,D J xl,G xfar,D J xpc,G ov]:=gB.set_ 3 _;have dE:Below (rb+1) aY ((((aY.setCell ⟨a_st,0,U⟩ (D J xf)).setCell ⟨a_st,1,U⟩ (D J xl)).setCell ⟨a_st,2,U⟩ (G xfar)).setCell ⟨a_st,3,U⟩ (D J xpc)):=dF.setCell (p:=⟨a_st,3,U⟩) fo _;have dI:Below w.heap.size aY ((((aY.setCell ⟨a_st,0,U⟩ (D J xf)).setCell ⟨a_st,1,U⟩ (D J xl)).setCell ⟨a_st,2,U⟩ (G xfar)).setCell ⟨a_st,3,U⟩ (D J xpc)):=dJ.setCell (p:=⟨a_st,3,U⟩) gW _;have bp:=ce.far (p:=⟨a_st,3,U⟩) (by simp only;omega) (D J xpc);have cd:=gq.far (p:=⟨a_st,3,U⟩) (by simp only;omega) (D J xpc);have fB:=mf.farSet (g:=a_st) 3 (D J xpc) (fun k hk=>Nat.ne_of_lt (oC k hk));have lA:=ir.over dE;have lB:=zAd it dI;clear ir it al aw bD iG dH dL gD ci gt mh dG dK gC cg gr mg dF dJ gB ce gq mf dE dI;go_upto_region 18 with fail
      clear jz kT jy kS jx kQ jw kP;generalize ((((aY.setCell ⟨a_st,0,U⟩ (D J xf)).setCell ⟨a_st,1,U⟩ (D J xl)).setCell ⟨a_st,2,U⟩ (G xfar)).setCell ⟨a_st,3,U⟩ (D J xpc))=X32 at lA lB bp cd el fB ⊢;have f6:X32.cell? ⟨a1,6,U⟩=Z (H B m c):=(cd.cell 6).trans rfl;obtain ⟨y0,y1,y2,y3,y4⟩:=cQ5 el;have hsz:a1+1≤X32.heap.size:=by have:=cd.lt;omega
      go_upto_region 19 with (at_builtin;refine zGT ?_)
      refine qH ?_;refine zWk (y:=⟨⟨xf,xl,xfar,xpc⟩,ov⟩) (N:=m+1) (base:=a1+1) (A:=B) (n:=m) (c:=c) (P:=Pi) rfl (.tmp 58) (.tmp 60) ?_ ?_ ?_ ?_ ?_ ?_ ?_ ?_
      ·rfl
      ·exact fB
      ·rfl
      ·rfl
      ·rfl
      ·omega
      ·exact hsz
      intro A2 c2 w9 hR9 bx bg;have aP:=fB.belowOf bx hsz;have h9:=lA.over (aP.mono (by omega));have pZ:=bp.below aP (by omega);have kz:=cd.below aP (by omega);have g9:=zAd lB (aP.mono (by omega));clear hsz aP bx bg lA lB bp cd el fB f6 y0 y1 y2 y3 y4;have z33:=kz.frozen 6;have d33:w9.cell? ⟨a1,6,U⟩=Z (H B m c):=(kz.cell 6).trans rfl;have aH:Blk (w9.setCell ⟨a1,6,U⟩ (H A2 (m+1) c2)) a1 32 #[D J 3,D J (f:Int),D J 0,D J 0,G E,D J 0,H A2 (m+1) c2,G E]:=kz.set_ 6 _;have rq:Below (rb+1) w9 (w9.setCell ⟨a1,6,U⟩ (H A2 (m+1) c2)):=(Below.refl _ _).setCell (p:=⟨a1,6,U⟩) ae _;have Dj:Below w.heap.size w9 (w9.setCell ⟨a1,6,U⟩ (H A2 (m+1) c2)):=(Below.refl _ _).setCell (p:=⟨a1,6,U⟩) aA _;have aN:=pZ.far (p:=⟨a1,6,U⟩) (by simp only;omega) (H A2 (m+1) c2);have eH:=h9.over rq;have dD:=hR9.farSet (g:=a1) 6 (H A2 (m+1) c2) (fun k hk=>by have:=(hR9.lt k hk).1;omega);have jm:=zAd g9 Dj;clear h9 g9 pZ kz hR9 rq Dj;go_upto_region 19 with fail
      clear z33 d33;generalize w9.setCell ⟨a1,6,U⟩ (H A2 (m+1) c2)=X34 at eH jm aN aH dD ⊢;go_cut [72] (fun _ wv=>∃X:World,X=wv∧RX X rb F sc∧Blk X w.heap.size 32 #[D J 0,D J 0,D J 0,D J 0,G E,D J 0,H U 0 0,G E]∧Blk X a1 32 #[D J 3,D J (f:Int),D J 0,D J 0,G E,D J 0,H A2 (m+1) c2,G E]∧w.grownBy X (Z rb)∧Row X (a1+1) 5 A2 (m+1) c2 ((Pi++[(⟨⟨xf,xl,xfar,xpc⟩,ov⟩:Sp)]).flatMap zIo))
      case first =>
       cases hb:sb.bad with
       | true =>
        have c4:X34.cell? ⟨rb,4,U⟩=Z (G Q):=by rw [←hb];exact eH.bad4.1
        have z4:=eH.bad4.2;have hm:=eH.marked E Q (by rw [hb];rfl);have HZ:=qH (show RX (X34.setCell ⟨rb,4,U⟩ (G Q)) rb F sc∧Blk (X34.setCell ⟨rb,4,U⟩ (G Q)) w.heap.size 32 #[D J 0,D J 0,D J 0,D J 0,G E,D J 0,H U 0 0,G E]∧Blk (X34.setCell ⟨rb,4,U⟩ (G Q)) a1 32 #[D J 3,D J (f:Int),D J 0,D J 0,G E,D J 0,H A2 (m+1) c2,G E]∧w.grownBy (X34.setCell ⟨rb,4,U⟩ (G Q)) (Z rb)∧Row (X34.setCell ⟨rb,4,U⟩ (G Q)) (a1+1) 5 A2 (m+1) c2 ((Pi++[(⟨⟨xf,xl,xfar,xpc⟩,ov⟩:Sp)]).flatMap zIo) from ⟨by rw [←EC.out,zFy [44] hb];exact hm.1,aN.grownO hm.2 ak,aH.grownO hm.2 ae,zAb jm hm.2,dD.overO hm.2 (by omega)⟩);clear hm hb eH jm aN aH dD;go_wp2_with fail
        go_meet
        case rel=>exact ⟨_,rfl,HZ.out⟩
       | false =>
        obtain ⟨ib,eib⟩:∃b,isB sb.T [44]=b:=⟨_,rfl⟩
        have c4:X34.cell? ⟨rb,4,U⟩=Z (G E):=by rw [←hb];exact eH.bad4.1
        have z4:=eH.bad4.2;have HI:=qH (zOc eH [44]);rw [eib] at HI;have HE:=qH (show (sb.is [44]).mark (!ib)=sc by rw [←EC.out,zEs [44] hb,eib]);have HB:=qH hb;clear eib hb;go_wp2_with fail
        refine HI.out.mono ?_;rintro e Y ⟨rfl,hy,qy⟩;have kj:=aN.grownO qy ak;have ki:=aH.grownO qy ae;have mP:=dD.overO qy (by omega);have wg:=zAb jm qy;have c5:Y.cell? ⟨rb,4,U⟩=Z (G E):=by rw [←HB.out];exact hy.bad4.1
        have z5:=hy.bad4.2;have hm:=fun q (hq:q = !ib)=>hy.marked (!ib) q (by rw [show (sb.is [44]).bad=E from HB.out];exact hq)
        have HZ:=qH (fun (q:Bool) (hq:q = !ib)=>(show RX (Y.setCell ⟨rb,4,U⟩ (G q)) rb F sc∧Blk (Y.setCell ⟨rb,4,U⟩ (G q)) w.heap.size 32 #[D J 0,D J 0,D J 0,D J 0,G E,D J 0,H U 0 0,G E]∧Blk (Y.setCell ⟨rb,4,U⟩ (G q)) a1 32 #[D J 3,D J (f:Int),D J 0,D J 0,G E,D J 0,H A2 (m+1) c2,G E]∧w.grownBy (Y.setCell ⟨rb,4,U⟩ (G q)) (Z rb)∧Row (Y.setCell ⟨rb,4,U⟩ (G q)) (a1+1) 5 A2 (m+1) c2 ((Pi++[(⟨⟨xf,xl,xfar,xpc⟩,ov⟩:Sp)]).flatMap zIo) from ⟨by rw [←HE.out];exact (hm q hq).1,kj.grownO (hm q hq).2 ak,ki.grownO (hm q hq).2 ae,zAb wg (hm q hq).2,mP.overO (hm q hq).2 (by omega)⟩));clear hm qy HI HE HB c4 z4 hy wg kj ki mP eH jm aN aH dD
        cases ib
        all_goals
         go_wp2_with fail
         go_meet
         case rel=>exact ⟨_,rfl,HZ.out _ rfl⟩
      case rest =>
       clear eH jm aN aH dD;obtain ⟨lC,hX,qP,au,dB,tM,jg⟩:=hcut;subst hX
       cases hbad:sc.bad with
       | true =>
        have c9:lC.cell? ⟨rb,4,U⟩=Z (G Q):=by rw [←hbad];exact qP.bad4.1
        have HE:=qH (show zBV F.L 3 f s4=(⟨3,f,s0,Pi++[(⟨⟨xf,xl,xfar,xpc⟩,ov⟩:Sp)],E⟩,sc) by unfold zBV;rw [if_neg (by omega),if_pos rfl,←E0.out,if_pos hbad]);clear hbad;go_wp2_with fail
        rw [zJG];clear c9;obtain ⟨f0,f1,f2,f3,f4,f5,f6,f7⟩:=cQ8 dB;have y0:lC.cell? ⟨w.heap.size,0,U⟩=Z (D J 0):=(au.cell 0).trans rfl;have iC:=au.frozen 0;have y1:lC.cell? ⟨w.heap.size,1,U⟩=Z (D J 0):=(au.cell 1).trans rfl;have iB:=au.frozen 1;have y2:lC.cell? ⟨w.heap.size,2,U⟩=Z (D J 0):=(au.cell 2).trans rfl;have jF:=au.frozen 2;have y3:lC.cell? ⟨w.heap.size,3,U⟩=Z (D J 0):=(au.cell 3).trans rfl;have jE:=au.frozen 3;have y4:lC.cell? ⟨w.heap.size,4,U⟩=Z (G E):=(au.cell 4).trans rfl;have jD:=au.frozen 4;have y5:lC.cell? ⟨w.heap.size,5,U⟩=Z (D J 0):=(au.cell 5).trans rfl;have jC:=au.frozen 5;have y6:lC.cell? ⟨w.heap.size,6,U⟩=Z (H U 0 0):=(au.cell 6).trans rfl;have jB:=au.frozen 6;have y7:lC.cell? ⟨w.heap.size,7,U⟩=Z (G E):=(au.cell 7).trans rfl;have jA:=au.frozen 7;have hS:=au.store8 (D J 3) (D J (f:Int)) (D J 0) (D J 0) (G E) (D J 0) (H A2 (m+1) c2) (G E);have bS:=zAg (Below.refl (rb+1) lC) (show rb+1≤w.heap.size from ak) (D J 3) (D J (f:Int)) (D J 0) (D J 0) (G E) (D J 0) (H A2 (m+1) c2) (G E);have jp:=zAg (Below.refl w.heap.size lC) dq (D J 3) (D J (f:Int)) (D J 0) (D J 0) (G E) (D J 0) (H A2 (m+1) c2) (G E);have hX:=qP.over bS;have gX:=zAd tM jp;have hE:=jg.store8  (show w.heap.size < a1+1 by omega) (D J 3) (D J (f:Int)) (D J 0) (D J 0) (G E) (D J 0) (H A2 (m+1) c2) (G E);go_wp2_with fail
        exact zAH rfl rfl hS Tryz.underlying32 rfl (by kernel_rfl) rfl (eM.out ⟨3,f,s0,Pi++[(⟨⟨xf,xl,xfar,xpc⟩,ov⟩:Sp)],E⟩ sc HE.out _ A2 (m+1) c2 (hE.mono (by omega)) (by rw [yu.out];simp) hX gX)
       | false =>
        have c9:lC.cell? ⟨rb,4,U⟩=Z (G E):=by rw [←hbad];exact qP.bad4.1
        have HL:=qH (nH.out hbad);have HF:=qH (show zUx w rb a1 F f s4 lC sc (Pi++[(⟨⟨xf,xl,xfar,xpc⟩,ov⟩:Sp)]) A2 (m+1) c2 N from ⟨qP,au,dB,tM,jg,by rw [yu.out];simp,by have:=HL.out;have:=fk.out;omega,by have:=HL.out;have:=Cl.out;omega,by rw [←E0.out,hbad];rfl⟩);clear hbad qP tM au dB jg;go_wp2_with fail
        go_step3
        refine zLX ⟨rfl,_,HL.out,_,sc,_,A2,m+1,c2,N,⟨rfl,rfl,rfl,rfl,rfl⟩,rfl,rfl,HF⟩
    exact absurd HW.out (by omega)
end Go.Proofs.YtlmdfmnbcndhoaaGreatDoor
