/-
  Lemmas, part 17. Conditions: each theorem's own.
-/
import Derived.Test.YtlmdfmnbcndhoaaGreatDoorRc16
open Bool renaming false→E,true→Q
open Option renaming none→U,some→Z
open Go.Value renaming bool→G,int→D,slice→H
open Go.IntKind renaming i64→J
namespace Go.Proofs.YtlmdfmnbcndhoaaGreatDoor
open Go.RowKit
def kTo (K:Int) (k:Nat):Int:=if K < (k:Int) then K else 0
theorem zFu {s:RS} (ZR:List UInt8) (h:s.bad=Q):s.must ZR=s.mark E:=by
 obtain ⟨T,bad,lost⟩:=s;simp only at h;subst h;rfl
theorem zEp {s:RS} (ZR:List UInt8) (h:s.bad=E):s.must ZR=(s.is ZR).mark (!isB s.T ZR):=by
 unfold RS.must;rw [if_neg (by rw [h];simp)]
theorem zJB (ZY:Nat→Act→World→Prop) (ZS:Exit→Act→World→Prop) (a:Act) (w:World):zDZ ZY ZS .normal a w=ZS .normal a w:=rfl
theorem zLP (ZY:Nat→Act→World→Prop) (ZS:Exit→Act→World→Prop) (id:Nat) (a:Act) (w:World):zDZ ZY ZS (.exit id) a w=ZS (.exit id) a w:=rfl
theorem zDh (ZY:Nat→Act→World→Prop) (ZS:Exit→Act→World→Prop) (a:Act) (w:World):zDZ ZY ZS .ret a w=ZS .ret a w:=rfl
theorem zLQ {ZY:Nat→Act→World→Prop} {ZS:Exit→Act→World→Prop} {l:Nat} {a:Act} {w:World} (h:ZY l a w):zDZ ZY ZS (.goto l) a w:=h
theorem Row.store8 {w:World} {base g sz:Nat} {A:Option Addr} {n c:Nat} {xs:List Value} (h:Row w base sz A n c xs) (hg:g < base) (u0 u1 u2 u3 u4 u5 u6 u7:Value) :
  Row ((((((((w.setCell ⟨g,0,U⟩ u0).setCell ⟨g,1,U⟩ u1).setCell ⟨g,2,U⟩ u2).setCell ⟨g,3,U⟩ u3).setCell ⟨g,4,U⟩ u4).setCell ⟨g,5,U⟩ u5).setCell ⟨g,6,U⟩ u6).setCell ⟨g,7,U⟩ u7) base sz A n c xs:=by
 have hne:∀(wx:World),Row wx base sz A n c xs→∀k,blk A=Z k→k≠g:=fun wx hx k hk=>by have:=(hx.lt k hk).1;omega
 have h0:=h.farSet 0 u0 (hne _ h);have h1:=h0.farSet 1 u1 (hne _ h0);have h2:=h1.farSet 2 u2 (hne _ h1);have h3:=h2.farSet 3 u3 (hne _ h2);have h4:=h3.farSet 4 u4 (hne _ h3);have h5:=h4.farSet 5 u5 (hne _ h4);have h6:=h5.farSet 6 u6 (hne _ h5);exact h6.farSet 7 u7 (hne _ h6)
theorem zRV {α:Type} (d:α):∀(n:Nat) (l:List α),l.length=n→l=(List.range n).map (fun i=>l.getD i d):=fun n l h=>by
 apply List.ext_getElem?;intro i;by_cases hi:i < n
 ·rw [List.getElem?_map,List.getElem?_range hi,List.getElem?_eq_getElem (by omega)];simp [List.getD,List.getElem?_eq_getElem (show i < l.length by omega)]
 ·rw [List.getElem?_eq_none (by omega),List.getElem?_eq_none (by simp;omega)]
theorem zFv (n:Nat) (t:Array Value) (h:t.size=n):t=⟨(List.range n).map (fun i=>t.getD i undef)⟩:=by
 apply Array.ext';have:=zRV undef n t.toList (by simpa using h);simp only [Array.getD_eq_getD_getElem?];rw [this]
 congr 1
 funext i
 simp [List.getD]
theorem zEw {p:Prop} (h:Hid p):p:=h.out
def zUA (w:World) (rb a1:Nat) (F:Fm) (f:Nat) (s4:RS) (X:World) (si:RS) (Pi:List Sp) (B:Option Addr) (m c N:Nat):Prop :=
 RX X rb F si∧Blk X w.heap.size 32 #[D J 0,D J 0,D J 0,D J 0,G E,D J 0,H U 0 0,G E] ∧
  Blk X a1 32 #[D J 3,D J (f:Int),D J 0,D J 0,G E,D J 0,H B m c,G E]∧w.grownBy X (Z rb)∧Row X (a1+1) 5 B m c (Pi.flatMap zIg)∧m=Pi.length ∧
  m+si.T.length≤s4.T.length∧si.T.length < N∧zDU F.L N si Pi=zDU F.L (s4.T.length+1) s4 []
set_option maxHeartbeats 12800000 in
set_option maxRecDepth 100000 in
theorem zLR (rb:Nat) (F:Fm) (s:RS) (w:World) (h:RX w rb F s) (hT:s.T.length≤100000) (hw:zBP (xa s.T 0)=3) :
  Calls Tryz.prog 98 #[.pointer (Z ⟨rb,0,U⟩)] w (zEP w rb F (opR F.L s).1 (opR F.L s).2):=by
 obtain ⟨S0,fw⟩:∃S,xa s.T 0=S:=⟨_,rfl⟩
 obtain ⟨s1,e1⟩:∃x,s.next=x:=⟨_,rfl⟩
 obtain ⟨K,eK⟩:∃x,zBP S0=x:=⟨_,rfl⟩
 obtain ⟨s2,e2⟩:∃x,s1.mark (decide (K=0))=x:=⟨_,rfl⟩
 obtain ⟨S1,jI⟩:∃S,xa s2.T 0=S:=⟨_,rfl⟩
 obtain ⟨s3,e3⟩:∃x,s2.next=x:=⟨_,rfl⟩
 obtain ⟨s4,e4⟩:∃x,s3.fing F.L S1=x:=⟨_,rfl⟩
 obtain ⟨f,efi⟩:∃x,zDE F.L S1=x:=⟨_,rfl⟩
 obtain ⟨b,eb⟩:∃b,s1.bad=b:=⟨_,rfl⟩
 have dm:xa s.T.tail 0=S1:=by rw [←jI,←e2,←e1];rfl
 have uN:s4.T.length≤100000:=by
  rw [←e4,←e3,←e2,←e1];simp only [RS.fing,RS.next,RS.mark,List.length_tail];omega
 have HR:=qH (show opR F.L s=zBW F.L K f s4 by
  have hp:zFq F.L s=s4:=by
   unfold zFq
   rw [fw,dm,e1,eK,e2,e3,e4]
  unfold opR
  rw [hp,fw,dm,eK,efi])
 have hK:0≤K∧K≤8:=by
  by_cases e:K=0
  ·omega
  ·have:=zHB (v:=S0) (by rw [eK];exact e);rw [eK] at this;omega
 have sq:=qH (fun (k:Nat) (h1:1≤k) (h8:k≤8)=>(show ((bA (zBk (k:Int))).toList==(bA S0).toList)=decide (K=(k:Int)) by
  rw [zAD,zAD,←eK];exact zFY h1 h8 S0))
 have H1:=qH (fun wx (hx:RX wx rb F s)=>zCG hx);have H2:=qH (fun wx (hx:RX wx rb F s2)=>zCG hx);have H3:=qH (fun wx (hx:RX wx rb F s3)=>zCH hx S1)
 have HM:=qH (fun wx (hx:RX wx rb F s1)=>(show wx.cell? ⟨rb,4,U⟩=Z (G b)∧wx.frozen? ⟨rb,4,U⟩=E∧∀q,q=(b||decide (K=0))→RX (wx.setCell ⟨rb,4,U⟩ (G q)) rb F s2∧wx.grownBy (wx.setCell ⟨rb,4,U⟩ (G q)) (Z rb) from
  ⟨by rw [←eb];exact hx.bad4.1,hx.bad4.2,fun q hq=>by rw [←e2];exact hx.marked (decide (K=0)) q (by rw [eb];exact hq)⟩))
 simp only [fw,e1] at H1;simp only [jI,e3] at H2;simp only [efi,e4] at H3;rw [HR.out];have HW:Hid (K=3):=qH (by rw [←eK,←fw];exact hw);have hlt:=h.lt
 have dd:=qH (fun (o:Og) (st:RS) (he:zBW F.L K f s4=(o,st)) (wx:World) (B:Option Addr) (m d:Nat) (hrow:Row wx w.heap.size 5 B m d (o.path.flatMap zIg)) (hm:m=o.path.length) (hx:RX wx rb F st) (hg:w.grownBy wx (Z rb)) =>
  (show zEP w rb F (zBW F.L K f s4).1 (zBW F.L K f s4).2 (.returned (opV o B m d)) wx from by rw [he];exact ⟨B,m,d,rfl,hrow,hm,hx,hg⟩))
 clear fw e1 e2 jI e3 e4 efi eb eK dm HR hT hw;have b1:Below w.heap.size w ((w.alloc (.cells #[D J 0,D J 0,D J 0,D J 0,G E,D J 0,H U 0 0,G E] 32)).alloc (.cells #[D J 0,D J 0,D J 0,D J 0,G E,D J 0,H U 0 0,G E] 32)):=((Below.refl _ _).alloc (Nat.le_refl _) _).alloc (by simp) _;have cM:Blk ((w.alloc (.cells #[D J 0,D J 0,D J 0,D J 0,G E,D J 0,H U 0 0,G E] 32)).alloc (.cells #[D J 0,D J 0,D J 0,D J 0,G E,D J 0,H U 0 0,G E] 32)) w.heap.size 32 #[D J 0,D J 0,D J 0,D J 0,G E,D J 0,H U 0 0,G E]:=(Blk.new w _ _).alloc _;have bI:Blk ((w.alloc (.cells #[D J 0,D J 0,D J 0,D J 0,G E,D J 0,H U 0 0,G E] 32)).alloc (.cells #[D J 0,D J 0,D J 0,D J 0,G E,D J 0,H U 0 0,G E] 32)) (w.heap.size+1) 32 #[D J 0,D J 0,D J 0,D J 0,G E,D J 0,H U 0 0,G E]:=by have:=Blk.new (w.alloc (.cells #[D J 0,D J 0,D J 0,D J 0,G E,D J 0,H U 0 0,G E] 32)) 32 #[D J 0,D J 0,D J 0,D J 0,G E,D J 0,H U 0 0,G E];rwa [World.size_alloc] at this
 have h1:=h.below b1;have g1:w.grownBy ((w.alloc (.cells #[D J 0,D J 0,D J 0,D J 0,G E,D J 0,H U 0 0,G E] 32)).alloc (.cells #[D J 0,D J 0,D J 0,D J 0,G E,D J 0,H U 0 0,G E] 32)) (Z rb):=zAv b1;have ak:rb < w.heap.size:=hlt;have ae:rb < w.heap.size+1:=by omega
 have dI:w.heap.size≤w.heap.size:=Nat.le_refl _;have aC:w.heap.size≤w.heap.size+1:=by omega
 clear h b1;obtain ⟨a1,cd⟩:∃a,a=w.heap.size+1:=⟨_,rfl⟩
 have gW:w.heap.size < a1:=by omega
 go_enter Tryz.func98,Tryz.ntmps98;go_wp2_with fail
 generalize ((w.alloc (.cells #[D J 0,D J 0,D J 0,D J 0,G E,D J 0,H U 0 0,G E] 32)).alloc (.cells #[D J 0,D J 0,D J 0,D J 0,G E,D J 0,H U 0 0,G E] 32))=X1 at cM bI h1 g1 ⊢;rw [←cd] at bI ae aC ⊢;clear cd;refine (H1.out X1 h1).mono ?_;rintro e xR ⟨rfl,nP,gw⟩;have cZ:=cM.grownO gw ak;have cY:=bI.grownO gw ae;have nT:=zAb g1 gw;clear h1 g1 cM bI gw H1;go_wp2_with fail
 go_loopw [5] (fun v wv=>∃(k:Nat) (X:World),X=wv∧1≤k∧k≤9∧v=D J k∧Hid (RX X rb F s1∧Blk X w.heap.size 32 #[D J 0,D J 0,D J 0,D J 0,G E,D J 0,H U 0 0,G E]∧Blk X a1 32 #[D J (kTo K k),D J 0,D J 0,D J 0,G E,D J 0,H U 0 0,G E]∧w.grownBy X (Z rb))) (fun v _=>9-(intOf v).toNat)
 case atStart=>exact ⟨1,_,rfl,by omega,by omega,rfl,qH (by rw [show kTo K 1=0 from by unfold kTo;split<;>omega];exact ⟨nP,cZ,cY,nT⟩)⟩
 case round =>
  clear nP nT cZ cY;obtain ⟨k,X,hX,ag,iC,rfl,HX⟩:=hrel;subst hX;by_cases hk:k≤8
  ·have i1:(k:Int)≤8:=by omega
   have n0:=sq.out k ag hk;by_cases hq:K=(k:Int)
   ·obtain ⟨h12,cX,aY,r7⟩:=HX.out;rw [decide_eq_true hq] at n0;have Ec:=aY.frozen 0;have F6:X.cell? ⟨a1,0,U⟩=Z (D J (kTo K k)):=(aY.cell 0).trans rfl;have cV:Blk (X.setCell ⟨a1,0,U⟩ (D J (k:Int))) a1 32 #[D J (k:Int),D J 0,D J 0,D J 0,G E,D J 0,H U 0 0,G E]:=aY.set_ 0 _;have qn:Below (rb+1) X (X.setCell ⟨a1,0,U⟩ (D J (k:Int))):=(Below.refl _ _).setCell (p:=⟨a1,0,U⟩) ae _;have qW:Below w.heap.size X (X.setCell ⟨a1,0,U⟩ (D J (k:Int))):=(Below.refl _ _).setCell (p:=⟨a1,0,U⟩) aC _;have cW:=cX.far (p:=⟨a1,0,U⟩) (by simp only;omega) (D J (k:Int));have rW:=h12.over qn;have r6:=zAc r7 qW;clear h12 r7 cX aY qn qW;have HF:=qH (show kTo K (k+1)=(k:Int) by unfold kTo;rw [if_pos (by omega)];exact hq);have HZ:=qH (show RX (X.setCell ⟨a1,0,U⟩ (D J (k:Int))) rb F s1∧Blk (X.setCell ⟨a1,0,U⟩ (D J (k:Int))) w.heap.size 32 #[D J 0,D J 0,D J 0,D J 0,G E,D J 0,H U 0 0,G E]∧Blk (X.setCell ⟨a1,0,U⟩ (D J (k:Int))) a1 32 #[D J (k:Int),D J 0,D J 0,D J 0,G E,D J 0,H U 0 0,G E]∧w.grownBy (X.setCell ⟨a1,0,U⟩ (D J (k:Int))) (Z rb) from ⟨rW,cW,cV,r6⟩);clear HX hq rW r6 cW cV;go_wp2_with (first | (go_at_call 106;refine (zCd (k:Int) (by omega) (by omega) _).mono ?_;rintro e wq ⟨rfl,rfl⟩))
    go_roundw
    case rel=>exact ⟨k+1,_,rfl,by omega,by omega,by go_num,qH (by rw [HF.out];exact HZ.out)⟩
    case measure=>simp [intOf];omega
   ·rw [decide_eq_false hq] at n0;have HF:=qH (show kTo K (k+1)=kTo K k by unfold kTo;split<;>split<;>omega);clear hq;go_wp2_with (first | (go_at_call 106;refine (zCd (k:Int) (by omega) (by omega) _).mono ?_;rintro e wq ⟨rfl,rfl⟩))
    go_roundw
    case rel=>exact ⟨k+1,_,rfl,by omega,by omega,by go_num,qH (by rw [HF.out];exact HX.out)⟩
    case measure=>simp [intOf];omega
  ·have i1:¬(k:Int)≤8:=by omega
   obtain ⟨rV,cU,aX,rZ⟩:=HX.out;rw [show kTo K k=K from by unfold kTo;rw [if_pos (by omega)]] at aX;obtain ⟨c4,z4,hm⟩:=HM.out X rV;have HZ:=qH (fun (q:Bool) hq=>(show RX (X.setCell ⟨rb,4,U⟩ (G q)) rb F s2∧Blk (X.setCell ⟨rb,4,U⟩ (G q)) w.heap.size 32 #[D J 0,D J 0,D J 0,D J 0,G E,D J 0,H U 0 0,G E]∧Blk (X.setCell ⟨rb,4,U⟩ (G q)) a1 32 #[D J K,D J 0,D J 0,D J 0,G E,D J 0,H U 0 0,G E]∧w.grownBy (X.setCell ⟨rb,4,U⟩ (G q)) (Z rb) from ⟨(hm q hq).1,cU.grownO (hm q hq).2 ak,aX.grownO (hm q hq).2 ae,zAb rZ (hm q hq).2⟩));have f0:X.cell? ⟨a1,0,U⟩=Z (D J K):=(aX.cell 0).trans rfl;clear hm HM HX sq rV rZ cU aX;obtain ⟨q0,lX⟩:∃q,decide (K=0)=q:=⟨_,rfl⟩
   have i2:(K==0)=q0:=by rw [←lX];by_cases e:K=0<;>simp [e]
   rw [lX] at HZ;clear lX;go_upto_region 8 with fail
   go_cut [29] (fun _ wv=>∃X:World,X=wv∧RX X rb F s2∧Blk X w.heap.size 32 #[D J 0,D J 0,D J 0,D J 0,G E,D J 0,H U 0 0,G E]∧Blk X a1 32 #[D J K,D J 0,D J 0,D J 0,G E,D J 0,H U 0 0,G E]∧w.grownBy X (Z rb))
   case first =>
    cases b<;>cases q0
    all_goals
     go_wp2_with fail
     go_meet
     case rel=>exact ⟨_,rfl,HZ.out _ rfl⟩
   case rest =>
    clear c4 z4 HZ f0 i2;obtain ⟨X,hX,rU,cT,cS,rY⟩:=hcut;subst hX;go_wp2_with fail
    refine (H2.out X rU).mono ?_;rintro e xQ ⟨rfl,rT,gO⟩;have cR:=cT.grownO gO ak;have cQ:=cS.grownO gO ae;have rX:=zAb rY gO;clear rU rY cT cS gO H2;go_wp2_with fail
    refine (H3.out xQ rT).mono ?_;rintro e fk ⟨rfl,rS,gv⟩;have cO:=cR.grownO gv ak;have aW:=cQ.grownO gv ae;have g17:=zAb rX gv;clear rT rX cR cQ gv H3;have vv:=aW.frozen 1;have xO:fk.cell? ⟨a1,1,U⟩=Z (D J 0):=(aW.cell 1).trans rfl;have bx:Blk (fk.setCell ⟨a1,1,U⟩ (D J (f:Int))) a1 32 #[D J K,D J (f:Int),D J 0,D J 0,G E,D J 0,H U 0 0,G E]:=aW.set_ 1 _;have oP:Below (rb+1) fk (fk.setCell ⟨a1,1,U⟩ (D J (f:Int))):=(Below.refl _ _).setCell (p:=⟨a1,1,U⟩) ae _;have qV:Below w.heap.size fk (fk.setCell ⟨a1,1,U⟩ (D J (f:Int))):=(Below.refl _ _).setCell (p:=⟨a1,1,U⟩) aC _;have bz:=cO.far (p:=⟨a1,1,U⟩) (by simp only;omega) (D J (f:Int));have nO:=rS.over oP;have g18:=zAc g17 qV;clear rS g17 cO aW oP qV;go_upto_region 10 with fail
    clear vv xO;generalize fk.setCell ⟨a1,1,U⟩ (D J (f:Int))=X9 at nO g18 bz bx ⊢;have HA:=qH (show RX X9 rb F s4∧Blk X9 w.heap.size 32 #[D J 0,D J 0,D J 0,D J 0,G E,D J 0,H U 0 0,G E]∧Blk X9 a1 32 #[D J K,D J (f:Int),D J 0,D J 0,G E,D J 0,H U 0 0,G E]∧w.grownBy X9 (Z rb) from ⟨nO,bz,bx,g18⟩);clear nO g18 bz bx;by_cases n4:K=4
    ·subst n4;exact absurd HW.out (by omega)
    by_cases n5:K=5
    ·subst n5;exact absurd HW.out (by omega)
    by_cases n6:K=6
    ·subst n6;exact absurd HW.out (by omega)
    by_cases n7:K=7
    ·subst n7;exact absurd HW.out (by omega)
    by_cases n3:K=3
    ·subst n3;obtain ⟨jG,bw,aV,nR⟩:=HA.out;clear HA;have f0:X9.cell? ⟨a1,0,U⟩=Z (D J 3):=(aV.cell 0).trans rfl;have sd:=qH (show zUA w rb a1 F f s4 X9 s4 [] U 0 0 (s4.T.length+1) from ⟨jG,bw,aV,nR,Row.none_ _ _ _,rfl,by omega,by omega,rfl⟩);go_wp2_with fail
     clear f0 jG nR bw aV;refine zIh 0 s4.T.length (fun n a wv=>∃(X:World) (si:RS) (Pi:List Sp) (B:Option Addr) (m c N:Nat),(a.tmps.size=129∧a.tmps.getD 0 undef=.pointer (Z ⟨rb,0,U⟩)∧a.tmps.getD 2 undef=.pointer (Z ⟨w.heap.size,0,U⟩)∧a.tmps.getD 3 undef=.pointer (Z ⟨a1,0,U⟩)∧a.defers=[])∧X=wv∧n=si.T.length∧Hid (zUA w rb a1 F f s4 X si Pi B m c N)) ?_ ?_
     ·exact ⟨_,s4,[],U,0,0,_,⟨rfl,rfl,rfl,rfl,rfl⟩,rfl,rfl,sd⟩
     clear sd;rintro n ⟨tm,df⟩ X ⟨X0,si,Pi,B,m,c,N,⟨hs,t0,t2,t3,hd⟩,hX,hn,HJ⟩;subst hX;subst hn;simp only at hs t0 t2 t3 hd;subst hd;obtain ⟨v,hv⟩:∃v:Nat→Value,tm=#[.pointer (Z ⟨rb,0,U⟩),v 1,.pointer (Z ⟨w.heap.size,0,U⟩),.pointer (Z ⟨a1,0,U⟩),v 4,v 5,v 6,v 7,v 8,v 9,v 10,v 11,v 12,v 13,v 14,v 15,v 16,v 17,v 18,v 19,v 20,v 21,v 22,v 23,v 24,v 25,v 26,v 27,v 28,v 29,v 30,v 31,v 32,v 33,v 34,v 35,v 36,v 37,v 38,v 39,v 40,v 41,v 42,v 43,v 44,v 45,v 46,v 47,v 48,v 49,v 50,v 51,v 52,v 53,v 54,v 55,v 56,v 57,v 58,v 59,v 60,v 61,v 62,v 63,v 64,v 65,v 66,v 67,v 68,v 69,v 70,v 71,v 72,v 73,v 74,v 75,v 76,v 77,v 78,v 79,v 80,v 81,v 82,v 83,v 84,v 85,v 86,v 87,v 88,v 89,v 90,v 91,v 92,v 93,v 94,v 95,v 96,v 97,v 98,v 99,v 100,v 101,v 102,v 103,v 104,v 105,v 106,v 107,v 108,v 109,v 110,v 111,v 112,v 113,v 114,v 115,v 116,v 117,v 118,v 119,v 120,v 121,v 122,v 123,v 124,v 125,v 126,v 127,v 128]:=⟨fun i=>tm.getD i undef,by rw [←t0,←t2,←t3];exact zFv 129 tm hs⟩
     subst hv;clear hs t0 t2 t3;obtain ⟨iI,al,ax,iJ,iY,hm,hle,hN,hpk⟩:=HJ.out;obtain ⟨N,rfl⟩:∃n',N=n'+1:=⟨N-1,by omega⟩
     rw [zDU] at hpk;have vc:=qH (fun wx (hx:RX wx rb F si)=>zNK hx zAU)
     cases hib:isB si.T zAU with
     | true =>
      obtain ⟨sj,ej⟩:∃x,si.is zAU=x:=⟨_,rfl⟩
      obtain ⟨⟨xf,xl,xfar,xpc⟩,ex⟩:∃x,(zAW F.L sj).1=x:=⟨_,rfl⟩
      obtain ⟨se,ee⟩:∃x,(zAW F.L sj).2=x:=⟨_,rfl⟩
      have HE:=qH (show zBW F.L 3 f s4=(⟨3,f,⟨xf,xl,xfar,xpc⟩,Pi,E⟩,se) by unfold zBW;rw [if_neg (by omega),if_pos rfl,←hpk,if_pos hib,ej,ex,ee]);have cu:=qH (fun wx (hx:RX wx rb F sj)=>zDY rb F sj wx hx);simp only [ex,ee] at cu;simp only [hib,ej] at vc;have zW:=qH hm;clear hib ej ex ee hpk HJ hN hm hle;go_wp2_with fail
      refine (vc.out X0 iI).mono ?_;rintro e iK ⟨rfl,lC,fU⟩;have eR:=al.grownO fU ak;have du:=ax.grownO fU ae;have vx:=iY.overO fU (by omega);have lE:=zAb iJ fU;clear iI iJ al ax iY fU vc;go_wp2_with fail
      refine (cu.out iK lC).mono ?_;rintro e ey ⟨rfl,dA,ka⟩;have ay:=eR.grownO ka ak;have bf:=du.grownO ka ae;have sv:=vx.overO ka (by omega);have dO:=zAb lE ka;clear lC lE eR du vx ka cu;have vp:=bf.frozen 2;have xJ:ey.cell? ⟨a1,2,U⟩=Z (D J 0):=(bf.cell 2).trans rfl;have vo:=bf.frozen 3;have xI:ey.cell? ⟨a1,3,U⟩=Z (D J 0):=(bf.cell 3).trans rfl;have vm:=bf.frozen 4;have xH:ey.cell? ⟨a1,4,U⟩=Z (G E):=(bf.cell 4).trans rfl;have vl:=bf.frozen 5;have xG:ey.cell? ⟨a1,5,U⟩=Z (D J 0):=(bf.cell 5).trans rfl;have rA:Blk (ey.setCell ⟨a1,2,U⟩ (D J xf)) a1 32 #[D J 3,D J (f:Int),D J xf,D J 0,G E,D J 0,H B m c,G E]:=bf.set_ 2 _;have qd:Below (rb+1) ey (ey.setCell ⟨a1,2,U⟩ (D J xf)):=(Below.refl _ _).setCell (p:=⟨a1,2,U⟩) ae _;have qL:Below w.heap.size ey (ey.setCell ⟨a1,2,U⟩ (D J xf)):=(Below.refl _ _).setCell (p:=⟨a1,2,U⟩) aC _;have gV:=ay.far (p:=⟨a1,2,U⟩) (by simp only;omega) (D J xf);have jf:=sv.farSet (g:=a1) 2 (D J xf) (fun k hk=>by have:=(sv.lt k hk).1;omega);have rz:Blk ((ey.setCell ⟨a1,2,U⟩ (D J xf)).setCell ⟨a1,3,U⟩ (D J xl)) a1 32 #[D J 3,D J (f:Int),D J xf,D J xl,G E,D J 0,H B m c,G E]:=rA.set_ 3 _;have qc:Below (rb+1) ey ((ey.setCell ⟨a1,2,U⟩ (D J xf)).setCell ⟨a1,3,U⟩ (D J xl)):=qd.setCell (p:=⟨a1,3,U⟩) ae _;have qK:Below w.heap.size ey ((ey.setCell ⟨a1,2,U⟩ (D J xf)).setCell ⟨a1,3,U⟩ (D J xl)):=qL.setCell (p:=⟨a1,3,U⟩) aC _;have gU:=gV.far (p:=⟨a1,3,U⟩) (by simp only;omega) (D J xl);have je:=jf.farSet (g:=a1) 3 (D J xl) (fun k hk=>by have:=(jf.lt k hk).1;omega);have ry:Blk (((ey.setCell ⟨a1,2,U⟩ (D J xf)).setCell ⟨a1,3,U⟩ (D J xl)).setCell ⟨a1,4,U⟩ (G xfar)) a1 32 #[D J 3,D J (f:Int),D J xf,D J xl,G xfar,D J 0,H B m c,G E]:=rz.set_ 4 _;have qb:Below (rb+1) ey (((ey.setCell ⟨a1,2,U⟩ (D J xf)).setCell ⟨a1,3,U⟩ (D J xl)).setCell ⟨a1,4,U⟩ (G xfar)):=qc.setCell (p:=⟨a1,4,U⟩) ae _;have qJ:Below w.heap.size ey (((ey.setCell ⟨a1,2,U⟩ (D J xf)).setCell ⟨a1,3,U⟩ (D J xl)).setCell ⟨a1,4,U⟩ (G xfar)):=qK.setCell (p:=⟨a1,4,U⟩) aC _;have gT:=gU.far (p:=⟨a1,4,U⟩) (by simp only;omega) (G xfar);have jd:=je.farSet (g:=a1) 4 (G xfar) (fun k hk=>by have:=(je.lt k hk).1;omega);have rx:Blk ((((ey.setCell ⟨a1,2,U⟩ (D J xf)).setCell ⟨a1,3,U⟩ (D J xl)).setCell ⟨a1,4,U⟩ (G xfar)).setCell ⟨a1,5,U⟩ (D J xpc)) a1 32 #[D J 3,D J (f:Int),D J xf,D J xl,G xfar,D J xpc,H B m c,G E]:=ry.set_ 5 _;have p9:Below (rb+1) ey ((((ey.setCell ⟨a1,2,U⟩ (D J xf)).setCell ⟨a1,3,U⟩ (D J xl)).setCell ⟨a1,4,U⟩ (G xfar)).setCell ⟨a1,5,U⟩ (D J xpc)):=qb.setCell (p:=⟨a1,5,U⟩) ae _;have qI:Below w.heap.size ey ((((ey.setCell ⟨a1,2,U⟩ (D J xf)).setCell ⟨a1,3,U⟩ (D J xl)).setCell ⟨a1,4,U⟩ (G xfar)).setCell ⟨a1,5,U⟩ (D J xpc)):=qJ.setCell (p:=⟨a1,5,U⟩) aC _;have an:=gT.far (p:=⟨a1,5,U⟩) (by simp only;omega) (D J xpc);have mX:=jd.farSet (g:=a1) 5 (D J xpc) (fun k hk=>by have:=(jd.lt k hk).1;omega);have xy:=dA.over p9;have xF:=zAc dO qI;clear dA dO ay bf sv qd qL rA gV jf qc qK rz gU je qb qJ ry gT jd p9 qI;go_wp2_with fail
      rw [zLP];clear vp xJ vo xI vm xH vl xG;generalize ((((ey.setCell ⟨a1,2,U⟩ (D J xf)).setCell ⟨a1,3,U⟩ (D J xl)).setCell ⟨a1,4,U⟩ (G xfar)).setCell ⟨a1,5,U⟩ (D J xpc))=X24 at xy xF an rx mX ⊢;obtain ⟨f0,f1,f2,f3,f4,f5,f6,f7⟩:=cQ8 rx;have y0:X24.cell? ⟨w.heap.size,0,U⟩=Z (D J 0):=(an.cell 0).trans rfl;have iU:=an.frozen 0;have y1:X24.cell? ⟨w.heap.size,1,U⟩=Z (D J 0):=(an.cell 1).trans rfl;have iT:=an.frozen 1;have y2:X24.cell? ⟨w.heap.size,2,U⟩=Z (D J 0):=(an.cell 2).trans rfl;have j9:=an.frozen 2;have y3:X24.cell? ⟨w.heap.size,3,U⟩=Z (D J 0):=(an.cell 3).trans rfl;have j8:=an.frozen 3;have y4:X24.cell? ⟨w.heap.size,4,U⟩=Z (G E):=(an.cell 4).trans rfl;have j7:=an.frozen 4;have y5:X24.cell? ⟨w.heap.size,5,U⟩=Z (D J 0):=(an.cell 5).trans rfl;have j6:=an.frozen 5;have y6:X24.cell? ⟨w.heap.size,6,U⟩=Z (H U 0 0):=(an.cell 6).trans rfl;have j5:=an.frozen 6;have y7:X24.cell? ⟨w.heap.size,7,U⟩=Z (G E):=(an.cell 7).trans rfl;have jZ:=an.frozen 7;have hS:=an.store8 (D J 3) (D J (f:Int)) (D J xf) (D J xl) (G xfar) (D J xpc) (H B m c) (G E);have bS:=zAh (Below.refl (rb+1) X24) (show rb+1≤w.heap.size from ak) (D J 3) (D J (f:Int)) (D J xf) (D J xl) (G xfar) (D J xpc) (H B m c) (G E);have jO:=zAh (Below.refl w.heap.size X24) dI (D J 3) (D J (f:Int)) (D J xf) (D J xl) (G xfar) (D J xpc) (H B m c) (G E);have hX:=xy.over bS;have gX:=zAc xF jO;have hE:=mX.store8  (show w.heap.size < a1+1 by omega) (D J 3) (D J (f:Int)) (D J xf) (D J xl) (G xfar) (D J xpc) (H B m c) (G E);go_wp2_with fail
      exact zAn rfl rfl hS Tryz.underlying32 rfl (by kernel_rfl) rfl (dd.out ⟨3,f,⟨xf,xl,xfar,xpc⟩,Pi,E⟩ se HE.out _ B m c (hE.mono (by omega)) zW.out hX gX)
     | false =>
      obtain ⟨ov,eov⟩:∃x,ovT (xa si.T 0)=x:=⟨_,rfl⟩
      obtain ⟨sa,ea⟩:∃x,si.over=x:=⟨_,rfl⟩
      obtain ⟨⟨xf,xl,xfar,xpc⟩,ex⟩:∃x,(zAW F.L sa).1=x:=⟨_,rfl⟩
      obtain ⟨sb,eb⟩:∃x,(zAW F.L sa).2=x:=⟨_,rfl⟩
      obtain ⟨sc,ec⟩:∃x,sb.must [44]=x:=⟨_,rfl⟩
      have ES:zLj F.L si=(⟨⟨xf,xl,xfar,xpc⟩,ov⟩,sc):=by unfold zLj;rw [ea,ex,eb,ec,eov]
      have um:=qH (fun (hb:sc.bad=E)=>(show sc.T.length < si.T.length by have:=zTt (L:=F.L) (s:=si) (by rw [ES];exact hb);obtain ⟨_,y,_,hT,_⟩:=this;rw [ES] at hT;have:=congrArg List.length hT;simp [stT] at this;omega));have Gp:=qH (show (if sc.bad then ((Pi++[(⟨⟨xf,xl,xfar,xpc⟩,ov⟩:Sp)],s0),sc) else zDU F.L N sc (Pi++[(⟨⟨xf,xl,xfar,xpc⟩,ov⟩:Sp)]))=zDU F.L (s4.T.length+1) s4 [] by rw [←hpk,hib,ES];rfl);have cu:=qH (fun wx (hx:RX wx rb F sa)=>zDY rb F sa wx hx);simp only [ex,eb] at cu;have aZ:=qH (fun wx (hx:RX wx rb F si)=>zHG hx);simp only [eov,ea] at aZ;simp only [hib,zIE hib] at vc;have zW:=qH hm;have fJ:=qH hle;have Di:=qH hN;have Bg:m≤100000:=by omega
      have EC:=qH ec;clear hib eov ea ex eb ec ES hpk HJ hN hm hle;go_wp2_with fail
      refine (vc.out X0 iI).mono ?_;rintro e gG ⟨rfl,lB,fA⟩;have eP:=al.grownO fA ak;have dt:=ax.grownO fA ae;have vw:=iY.overO fA (by omega);have lD:=zAb iJ fA;clear iI iJ al ax iY fA vc;go_wp2_with fail
      refine (aZ.out gG lB).mono ?_;rintro e pz ⟨rfl,gp,iA⟩;have cJ:=eP.grownO iA ak;have cI:=dt.grownO iA ae;have su:=vw.overO iA (by omega);have iv:=zAb lD iA;clear lB lD eP dt vw iA aZ;have nM:=fun k hk=>(su.lt k hk).2
      have gM:Below pz.heap.size pz (pz.alloc (.cells #[D J 0,D J 0,G E,D J 0,G ov] 86)):=(Below.refl _ _).alloc (Nat.le_refl _) _;have jn:=cJ.below gM cJ.lt;have jm:=cI.below gM cI.lt;have fY:Blk (pz.alloc (.cells #[D J 0,D J 0,G E,D J 0,G ov] 86)) pz.heap.size 86 #[D J 0,D J 0,G E,D J 0,G ov]:=Blk.new _ _ _;have pt:=gp.below gM;have iZ:=su.below gM;have pu:=zAb iv (zAv (row:=Z rb) gM);have fL:=gp.lt;have na:=cJ.lt;have m9:=cI.lt;have iu:=iv.size;clear gp iv cJ cI su gM;go_wp2_with fail
      generalize pz.alloc (.cells #[D J 0,D J 0,G E,D J 0,G ov] 86)=py at pt pu jn jm fY iZ ⊢;generalize pz.heap.size=a_st at fY fL iu na m9 nM ⊢;have pr:=nM;clear nM;refine (cu.out py pt).mono ?_;rintro e bi ⟨rfl,iI,gL⟩;have al:=jn.grownO gL ak;have ax:=jm.grownO gL ae;have bM:=fY.grownO gL fL;have iY:=iZ.overO gL (by omega);have iJ:=zAb pu gL;clear pt pu jn jm fY iZ gL cu;have jY:=bM.frozen 0;have lI:bi.cell? ⟨a_st,0,U⟩=Z (D J 0):=(bM.cell 0).trans rfl;have jX:=bM.frozen 1;have lH:bi.cell? ⟨a_st,1,U⟩=Z (D J 0):=(bM.cell 1).trans rfl;have jW:=bM.frozen 2;have lG:bi.cell? ⟨a_st,2,U⟩=Z (G E):=(bM.cell 2).trans rfl;have jV:=bM.frozen 3;have lF:bi.cell? ⟨a_st,3,U⟩=Z (D J 0):=(bM.cell 3).trans rfl;have ic:Blk (bi.setCell ⟨a_st,0,U⟩ (D J xf)) a_st 86 #[D J xf,D J 0,G E,D J 0,G ov]:=bM.set_ 0 _;have dY:Below (rb+1) bi (bi.setCell ⟨a_st,0,U⟩ (D J xf)):=(Below.refl _ _).setCell (p:=⟨a_st,0,U⟩) fL _;have ei:Below w.heap.size bi (bi.setCell ⟨a_st,0,U⟩ (D J xf)):=(Below.refl _ _).setCell (p:=⟨a_st,0,U⟩) iu _;have cD:=al.far (p:=⟨a_st,0,U⟩) (by simp only;omega) (D J xf);have gR:=ax.far (p:=⟨a_st,0,U⟩) (by simp only;omega) (D J xf);have mV:=iY.farSet (g:=a_st) 0 (D J xf) (fun k hk=>Nat.ne_of_lt (pr k hk));have hG:Blk ((bi.setCell ⟨a_st,0,U⟩ (D J xf)).setCell ⟨a_st,1,U⟩ (D J xl)) a_st 86 #[D J xf,D J xl,G E,D J 0,G ov]:=ic.set_ 1 _;have dX:Below (rb+1) bi ((bi.setCell ⟨a_st,0,U⟩ (D J xf)).setCell ⟨a_st,1,U⟩ (D J xl)):=dY.setCell (p:=⟨a_st,1,U⟩) fL _;have eh:Below w.heap.size bi ((bi.setCell ⟨a_st,0,U⟩ (D J xf)).setCell ⟨a_st,1,U⟩ (D J xl)):=ei.setCell (p:=⟨a_st,1,U⟩) iu _;have cB:=cD.far (p:=⟨a_st,1,U⟩) (by simp only;omega) (D J xl);have gQ:=gR.far (p:=⟨a_st,1,U⟩) (by simp only;omega) (D J xl);have mU:=mV.farSet (g:=a_st) 1 (D J xl) (fun k hk=>Nat.ne_of_lt (pr k hk));have gZ:Blk (((bi.setCell ⟨a_st,0,U⟩ (D J xf)).setCell ⟨a_st,1,U⟩ (D J xl)).setCell ⟨a_st,2,U⟩ (G xfar)) a_st 86 #[D J xf,D J xl,G xfar,D J 0,G ov]:=hG.set_ 2 _;have dW:Below (rb+1) bi (((bi.setCell ⟨a_st,0,U⟩ (D J xf)).setCell ⟨a_st,1,U⟩ (D J xl)).setCell ⟨a_st,2,U⟩ (G xfar)):=dX.setCell (p:=⟨a_st,2,U⟩) fL _;have d9:Below w.heap.size bi (((bi.setCell ⟨a_st,0,U⟩ (D J xf)).setCell ⟨a_st,1,U⟩ (D J xl)).setCell ⟨a_st,2,U⟩ (G xfar)):=eh.setCell (p:=⟨a_st,2,U⟩) iu _;have cA:=cB.far (p:=⟨a_st,2,U⟩) (by simp only;omega) (G xfar);have gP:=gQ.far (p:=⟨a_st,2,U⟩) (by simp only;omega) (G xfar);have mT:=mU.farSet (g:=a_st) 2 (G xfar) (fun k hk=>Nat.ne_of_lt (pr k hk));have eN:Blk ((((bi.setCell ⟨a_st,0,U⟩ (D J xf)).setCell ⟨a_st,1,U⟩ (D J xl)).setCell ⟨a_st,2,U⟩ (G xfar)).setCell ⟨a_st,3,U⟩ (D J xpc)) a_st 86 #[D J xf,D J xl,G xfar,D J xpc,G ov]:=gZ.set_ 3 _;have dV:Below (rb+1) bi ((((bi.setCell ⟨a_st,0,U⟩ (D J xf)).setCell ⟨a_st,1,U⟩ (D J xl)).setCell ⟨a_st,2,U⟩ (G xfar)).setCell ⟨a_st,3,U⟩ (D J xpc)):=dW.setCell (p:=⟨a_st,3,U⟩) fL _;have dZ:Below w.heap.size bi ((((bi.setCell ⟨a_st,0,U⟩ (D J xf)).setCell ⟨a_st,1,U⟩ (D J xl)).setCell ⟨a_st,2,U⟩ (G xfar)).setCell ⟨a_st,3,U⟩ (D J xpc)):=d9.setCell (p:=⟨a_st,3,U⟩) iu _;have bu:=cA.far (p:=⟨a_st,3,U⟩) (by simp only;omega) (D J xpc);have cz:=gP.far (p:=⟨a_st,3,U⟩) (by simp only;omega) (D J xpc);have fT:=mT.farSet (g:=a_st) 3 (D J xpc) (fun k hk=>Nat.ne_of_lt (pr k hk));have mr:=iI.over dV;have mt:=zAc iJ dZ;clear iI iJ al ax bM iY dY ei ic cD gR mV dX eh hG cB gQ mU dW d9 gZ cA gP mT dV dZ;go_upto_region 18 with fail
      clear jY lI jX lH jW lG jV lF;generalize ((((bi.setCell ⟨a_st,0,U⟩ (D J xf)).setCell ⟨a_st,1,U⟩ (D J xl)).setCell ⟨a_st,2,U⟩ (G xfar)).setCell ⟨a_st,3,U⟩ (D J xpc))=X32 at mr mt bu cz eN fT ⊢;have f6:X32.cell? ⟨a1,6,U⟩=Z (H B m c):=(cz.cell 6).trans rfl;obtain ⟨y0,y1,y2,y3,y4⟩:=cQ5 eN;have hsz:a1+1≤X32.heap.size:=by have:=cz.lt;omega
      go_upto_region 19 with (at_builtin;refine zEw ?_)
      refine qH ?_;refine zWj (y:=⟨⟨xf,xl,xfar,xpc⟩,ov⟩) (N:=m+1) (base:=a1+1) (A:=B) (n:=m) (c:=c) (P:=Pi) rfl (.tmp 58) (.tmp 60) ?_ ?_ ?_ ?_ ?_ ?_ ?_ ?_
      ·rfl
      ·exact fT
      ·rfl
      ·rfl
      ·rfl
      ·omega
      ·exact hsz
      intro A2 c2 w9 hR9 aQ aL;have aJ:=fT.belowOf aQ hsz;have h9:=mr.over (aJ.mono (by omega));have qX:=bu.below aJ (by omega);have ll:=cz.below aJ (by omega);have g9:=zAc mt (aJ.mono (by omega));clear hsz aJ aQ aL mr mt bu cz eN fT f6 y0 y1 y2 y3 y4;have z33:=ll.frozen 6;have d33:w9.cell? ⟨a1,6,U⟩=Z (H B m c):=(ll.cell 6).trans rfl;have aI:Blk (w9.setCell ⟨a1,6,U⟩ (H A2 (m+1) c2)) a1 32 #[D J 3,D J (f:Int),D J 0,D J 0,G E,D J 0,H A2 (m+1) c2,G E]:=ll.set_ 6 _;have sw:Below (rb+1) w9 (w9.setCell ⟨a1,6,U⟩ (H A2 (m+1) c2)):=(Below.refl _ _).setCell (p:=⟨a1,6,U⟩) ae _;have Er:Below w.heap.size w9 (w9.setCell ⟨a1,6,U⟩ (H A2 (m+1) c2)):=(Below.refl _ _).setCell (p:=⟨a1,6,U⟩) aC _;have aR:=qX.far (p:=⟨a1,6,U⟩) (by simp only;omega) (H A2 (m+1) c2);have fh:=h9.over sw;have dU:=hR9.farSet (g:=a1) 6 (H A2 (m+1) c2) (fun k hk=>by have:=(hR9.lt k hk).1;omega);have jH:=zAc g9 Er;clear h9 g9 qX ll hR9 sw Er;go_upto_region 19 with fail
      clear z33 d33;generalize w9.setCell ⟨a1,6,U⟩ (H A2 (m+1) c2)=X34 at fh jH aR aI dU ⊢;go_cut [72] (fun _ wv=>∃X:World,X=wv∧RX X rb F sc∧Blk X w.heap.size 32 #[D J 0,D J 0,D J 0,D J 0,G E,D J 0,H U 0 0,G E]∧Blk X a1 32 #[D J 3,D J (f:Int),D J 0,D J 0,G E,D J 0,H A2 (m+1) c2,G E]∧w.grownBy X (Z rb)∧Row X (a1+1) 5 A2 (m+1) c2 ((Pi++[(⟨⟨xf,xl,xfar,xpc⟩,ov⟩:Sp)]).flatMap zIg))
      case first =>
       cases hb:sb.bad with
       | true =>
        have c4:X34.cell? ⟨rb,4,U⟩=Z (G Q):=by rw [←hb];exact fh.bad4.1
        have z4:=fh.bad4.2;have hm:=fh.marked E Q (by rw [hb];rfl);have HZ:=qH (show RX (X34.setCell ⟨rb,4,U⟩ (G Q)) rb F sc∧Blk (X34.setCell ⟨rb,4,U⟩ (G Q)) w.heap.size 32 #[D J 0,D J 0,D J 0,D J 0,G E,D J 0,H U 0 0,G E]∧Blk (X34.setCell ⟨rb,4,U⟩ (G Q)) a1 32 #[D J 3,D J (f:Int),D J 0,D J 0,G E,D J 0,H A2 (m+1) c2,G E]∧w.grownBy (X34.setCell ⟨rb,4,U⟩ (G Q)) (Z rb)∧Row (X34.setCell ⟨rb,4,U⟩ (G Q)) (a1+1) 5 A2 (m+1) c2 ((Pi++[(⟨⟨xf,xl,xfar,xpc⟩,ov⟩:Sp)]).flatMap zIg) from ⟨by rw [←EC.out,zFu [44] hb];exact hm.1,aR.grownO hm.2 ak,aI.grownO hm.2 ae,zAb jH hm.2,dU.overO hm.2 (by omega)⟩);clear hm hb fh jH aR aI dU;go_wp2_with fail
        go_meet
        case rel=>exact ⟨_,rfl,HZ.out⟩
       | false =>
        obtain ⟨ib,eib⟩:∃b,isB sb.T [44]=b:=⟨_,rfl⟩
        have c4:X34.cell? ⟨rb,4,U⟩=Z (G E):=by rw [←hb];exact fh.bad4.1
        have z4:=fh.bad4.2;have HI:=qH (zNK fh [44]);rw [eib] at HI;have HE:=qH (show (sb.is [44]).mark (!ib)=sc by rw [←EC.out,zEp [44] hb,eib]);have HB:=qH hb;clear eib hb;go_wp2_with fail
        refine HI.out.mono ?_;rintro e Y ⟨rfl,hy,qy⟩;have lc:=aR.grownO qy ak;have kZ:=aI.grownO qy ae;have nJ:=dU.overO qy (by omega);have xA:=zAb jH qy;have c5:Y.cell? ⟨rb,4,U⟩=Z (G E):=by rw [←HB.out];exact hy.bad4.1
        have z5:=hy.bad4.2;have hm:=fun q (hq:q = !ib)=>hy.marked (!ib) q (by rw [show (sb.is [44]).bad=E from HB.out];exact hq)
        have HZ:=qH (fun (q:Bool) (hq:q = !ib)=>(show RX (Y.setCell ⟨rb,4,U⟩ (G q)) rb F sc∧Blk (Y.setCell ⟨rb,4,U⟩ (G q)) w.heap.size 32 #[D J 0,D J 0,D J 0,D J 0,G E,D J 0,H U 0 0,G E]∧Blk (Y.setCell ⟨rb,4,U⟩ (G q)) a1 32 #[D J 3,D J (f:Int),D J 0,D J 0,G E,D J 0,H A2 (m+1) c2,G E]∧w.grownBy (Y.setCell ⟨rb,4,U⟩ (G q)) (Z rb)∧Row (Y.setCell ⟨rb,4,U⟩ (G q)) (a1+1) 5 A2 (m+1) c2 ((Pi++[(⟨⟨xf,xl,xfar,xpc⟩,ov⟩:Sp)]).flatMap zIg) from ⟨by rw [←HE.out];exact (hm q hq).1,lc.grownO (hm q hq).2 ak,kZ.grownO (hm q hq).2 ae,zAb xA (hm q hq).2,nJ.overO (hm q hq).2 (by omega)⟩));clear hm qy HI HE HB c4 z4 hy xA lc kZ nJ fh jH aR aI dU
        cases ib
        all_goals
         go_wp2_with fail
         go_meet
         case rel=>exact ⟨_,rfl,HZ.out _ rfl⟩
      case rest =>
       clear fh jH aR aI dU;obtain ⟨mu,hX,rR,aw,dR,uV,jA⟩:=hcut;subst hX
       cases hbad:sc.bad with
       | true =>
        have c9:mu.cell? ⟨rb,4,U⟩=Z (G Q):=by rw [←hbad];exact rR.bad4.1
        have HE:=qH (show zBW F.L 3 f s4=(⟨3,f,s0,Pi++[(⟨⟨xf,xl,xfar,xpc⟩,ov⟩:Sp)],E⟩,sc) by unfold zBW;rw [if_neg (by omega),if_pos rfl,←Gp.out,if_pos hbad]);clear hbad;go_wp2_with fail
        rw [zJB];clear c9;obtain ⟨f0,f1,f2,f3,f4,f5,f6,f7⟩:=cQ8 dR;have y0:mu.cell? ⟨w.heap.size,0,U⟩=Z (D J 0):=(aw.cell 0).trans rfl;have iU:=aw.frozen 0;have y1:mu.cell? ⟨w.heap.size,1,U⟩=Z (D J 0):=(aw.cell 1).trans rfl;have iT:=aw.frozen 1;have y2:mu.cell? ⟨w.heap.size,2,U⟩=Z (D J 0):=(aw.cell 2).trans rfl;have j9:=aw.frozen 2;have y3:mu.cell? ⟨w.heap.size,3,U⟩=Z (D J 0):=(aw.cell 3).trans rfl;have j8:=aw.frozen 3;have y4:mu.cell? ⟨w.heap.size,4,U⟩=Z (G E):=(aw.cell 4).trans rfl;have j7:=aw.frozen 4;have y5:mu.cell? ⟨w.heap.size,5,U⟩=Z (D J 0):=(aw.cell 5).trans rfl;have j6:=aw.frozen 5;have y6:mu.cell? ⟨w.heap.size,6,U⟩=Z (H U 0 0):=(aw.cell 6).trans rfl;have j5:=aw.frozen 6;have y7:mu.cell? ⟨w.heap.size,7,U⟩=Z (G E):=(aw.cell 7).trans rfl;have jZ:=aw.frozen 7;have hS:=aw.store8 (D J 3) (D J (f:Int)) (D J 0) (D J 0) (G E) (D J 0) (H A2 (m+1) c2) (G E);have bS:=zAh (Below.refl (rb+1) mu) (show rb+1≤w.heap.size from ak) (D J 3) (D J (f:Int)) (D J 0) (D J 0) (G E) (D J 0) (H A2 (m+1) c2) (G E);have jO:=zAh (Below.refl w.heap.size mu) dI (D J 3) (D J (f:Int)) (D J 0) (D J 0) (G E) (D J 0) (H A2 (m+1) c2) (G E);have hX:=rR.over bS;have gX:=zAc uV jO;have hE:=jA.store8  (show w.heap.size < a1+1 by omega) (D J 3) (D J (f:Int)) (D J 0) (D J 0) (G E) (D J 0) (H A2 (m+1) c2) (G E);go_wp2_with fail
        exact zAn rfl rfl hS Tryz.underlying32 rfl (by kernel_rfl) rfl (dd.out ⟨3,f,s0,Pi++[(⟨⟨xf,xl,xfar,xpc⟩,ov⟩:Sp)],E⟩ sc HE.out _ A2 (m+1) c2 (hE.mono (by omega)) (by rw [zW.out];simp) hX gX)
       | false =>
        have c9:mu.cell? ⟨rb,4,U⟩=Z (G E):=by rw [←hbad];exact rR.bad4.1
        have HL:=qH (um.out hbad);have HF:=qH (show zUA w rb a1 F f s4 mu sc (Pi++[(⟨⟨xf,xl,xfar,xpc⟩,ov⟩:Sp)]) A2 (m+1) c2 N from ⟨rR,aw,dR,uV,jA,by rw [zW.out];simp,by have:=HL.out;have:=fJ.out;omega,by have:=HL.out;have:=Di.out;omega,by rw [←Gp.out,hbad];rfl⟩);clear hbad rR uV aw dR jA;go_wp2_with fail
        go_step3
        refine zLQ ⟨rfl,_,HL.out,_,sc,_,A2,m+1,c2,N,⟨rfl,rfl,rfl,rfl,rfl⟩,rfl,rfl,HF⟩
    exact absurd HW.out (by omega)
end Go.Proofs.YtlmdfmnbcndhoaaGreatDoor
