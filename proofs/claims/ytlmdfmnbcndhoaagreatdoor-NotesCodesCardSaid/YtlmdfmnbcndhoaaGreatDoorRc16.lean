/-
  Lemmas, part 16. Conditions: each theorem's own.
-/
import Derived.Test.YtlmdfmnbcndhoaaGreatDoorRc15
import Derived.Deep.DeepCutAuto
import Derived.WalkMore
import Derived.ScopeJumps
import Derived.Great.BuildSlice
open Option renaming none→U,some→Z
open Go.Value renaming bool→G,int→D,slice→H
open Go.IntKind renaming i64→J
open Bool renaming false→E
namespace Go.Proofs.YtlmdfmnbcndhoaaGreatDoor
open Go.RowKit
theorem Blk.store4 {w:World} {g:Nat} {t:TypeId} {v0 v1 v2 v3:Value} (h:Blk w g t #[v0,v1,v2,v3]) (u0 u1 u2 u3:Value) :
  Blk ((((w.setCell ⟨g,0,U⟩ u0).setCell ⟨g,1,U⟩ u1).setCell ⟨g,2,U⟩ u2).setCell ⟨g,3,U⟩ u3) g t #[u0,u1,u2,u3]:=(((h.set_ 0 _).set_ 1 _).set_ 2 _).set_ 3 _
theorem zCm {a w:World} {g B:Nat} (h:Below B a w) (hB:B≤g) (u0 u1 u2 u3:Value) :
  Below B a ((((w.setCell ⟨g,0,U⟩ u0).setCell ⟨g,1,U⟩ u1).setCell ⟨g,2,U⟩ u2).setCell ⟨g,3,U⟩ u3) :=
 (((h.setCell (p:=⟨g,0,U⟩) hB _).setCell (p:=⟨g,1,U⟩) hB _).setCell (p:=⟨g,2,U⟩) hB _).setCell (p:=⟨g,3,U⟩) hB _
theorem zWf (f:Int) (w:World):(Instr.build 29 #[(0,D J f)]).run Tryz.prog w=.ok (.agg #[D J f,D J 0,G E,D J 0]) w:=run_build w _ _ _ (by kernel_rfl)
theorem zWg (w:World):(Instr.build 29 #[]).run Tryz.prog w=.ok (.agg #[D J 0,D J 0,G E,D J 0]) w:=run_build w _ _ _ (by kernel_rfl)
theorem Blk.grownO {w w':World} {g rb:Nat} {t:TypeId} {cs:Array Value} (h:Blk w g t cs) (hg:w.grownBy w' (Z rb)) (hne:rb < g):Blk w' g t cs:=h.grown hg (fun e=>by injection e with e;omega)
theorem zAc {w0 w w':World} {rb:Nat} (h:w0.grownBy w (Z rb)) (hb:Below w0.heap.size w w'):w0.grownBy w' (Z rb) :=
 ⟨hb.os.trans h.os,hb.tape.trans h.tape,hb.output.trans h.output,Nat.le_trans h.size hb.size,fun k hk hne=>(hb.block k hk).trans (h.block k hk hne)⟩
theorem zPG (S:List UInt8):((bA S).toList==[110,101,97,114])=neT S:=by rw [zAD];rfl
theorem zRU (S:List UInt8):((bA S).toList==[102,97,114])=faT S:=by rw [zAD];rfl
set_option maxHeartbeats 6400000 in
theorem zDY (rb:Nat) (F:Fm) (s:RS) (w:World) (h:RX w rb F s) :
  Calls Tryz.prog 149 #[.pointer (Z ⟨rb,0,U⟩)] w fun e w'=>e=.returned (sgV (zAW F.L s).1)∧RX w' rb F (zAW F.L s).2∧w.grownBy w' (Z rb):=by
 obtain ⟨S0,fw⟩:∃S,xa s.T 0=S:=⟨_,rfl⟩
 obtain ⟨s1,e1⟩:∃x,s.next=x:=⟨_,rfl⟩
 obtain ⟨s2,e2⟩:∃x,s1.fing F.L S0=x:=⟨_,rfl⟩
 obtain ⟨S1,jI⟩:∃S,xa s2.T 0=S:=⟨_,rfl⟩
 obtain ⟨s3,e3⟩:∃x,s2.next=x:=⟨_,rfl⟩
 obtain ⟨b,eb⟩:∃b,s3.bad=b:=⟨_,rfl⟩
 obtain ⟨ne,en⟩:∃b,neT S1=b:=⟨_,rfl⟩
 obtain ⟨fa,ef⟩:∃b,faT S1=b:=⟨_,rfl⟩
 obtain ⟨s4,e4⟩:∃x,s3.mark (!(ne||fa))=x:=⟨_,rfl⟩
 obtain ⟨lo,elo⟩:∃x,(zEW zDe s4).1=x:=⟨_,rfl⟩
 obtain ⟨s5,e5⟩:∃x,(zEW zDe s4).2=x:=⟨_,rfl⟩
 obtain ⟨pc,epc⟩:∃x,(zEW zCb s5).1=x:=⟨_,rfl⟩
 obtain ⟨s6,e6⟩:∃x,(zEW zCb s5).2=x:=⟨_,rfl⟩
 obtain ⟨f,efi⟩:∃x,zDE F.L S0=x:=⟨_,rfl⟩
 have dm:xa s.T.tail 0=S1:=by rw [←jI,←e2,←e1];rfl
 have hr:zAW F.L s=(⟨f,lo,fa,pc⟩,s6):=by
  have hp:zDF F.L s=s4:=by
   unfold zDF;rw [fw,e1,e2,e3,dm,en,ef,e4]
  unfold zAW;rw [hp,e5,e6,elo,epc,dm,ef,fw,efi]
 have H1:=qH (fun wx (hx:RX wx rb F s)=>zCG hx);have n1:=zPG S1;have n2:=zRU S1;rw [en] at n1;rw [ef] at n2;have H2:=qH (fun wx (hx:RX wx rb F s1)=>zCH hx S0);have H3:=qH (fun wx (hx:RX wx rb F s2)=>zCG hx);have H4:=qH (fun wx (hx:RX wx rb F s4)=>zFt rb F s4 zDe wx hx);have H5:=qH (fun wx (hx:RX wx rb F s5)=>zFt rb F s5 zCb wx hx)
 have HM:=qH (fun wx (hx:RX wx rb F s3)=>(show wx.cell? ⟨rb,4,U⟩=Z (G b)∧wx.frozen? ⟨rb,4,U⟩=E∧∀q,q=(b||!(ne||fa))→RX (wx.setCell ⟨rb,4,U⟩ (G q)) rb F s4∧wx.grownBy (wx.setCell ⟨rb,4,U⟩ (G q)) (Z rb) from
  ⟨by rw [←eb];exact hx.bad4.1,hx.bad4.2,fun q hq=>by rw [←e4];exact hx.marked (!(ne||fa)) q (by rw [eb];exact hq)⟩))
 simp only [fw,e1] at H1;simp only [efi,e2] at H2;simp only [jI,e3] at H3;simp only [elo,e5] at H4;simp only [epc,e6] at H5;rw [hr];have hlt:=h.lt;have b1:Below w.heap.size w (w.alloc (.cells #[D J 0,D J 0,G E,D J 0] 29)):=(Below.refl _ _).alloc (Nat.le_refl _) _;have k1:Blk (w.alloc (.cells #[D J 0,D J 0,G E,D J 0] 29)) w.heap.size 29 #[D J 0,D J 0,G E,D J 0]:=Blk.new _ _ _;have h1:=h.below b1;have g1:w.grownBy (w.alloc (.cells #[D J 0,D J 0,G E,D J 0] 29)) (Z rb):=zAv b1;clear fw e1 e2 jI e3 eb en ef e4 elo e5 epc e6 efi dm hr h b1;go_enter Tryz.func149,Tryz.ntmps149;go_wp2_with fail
 generalize w.alloc (.cells #[D J 0,D J 0,G E,D J 0] 29)=X1 at k1 h1 g1 ⊢;refine (H1.out X1 h1).mono ?_;rintro e X2 ⟨rfl,h2,q2⟩;have k2:=k1.grownO q2 hlt;have g2:=zAb g1 q2;clear h1 k1 g1 q2 H1;go_wp2_with fail
 refine (H2.out X2 h2).mono ?_;rintro e X3 ⟨rfl,h3,q3⟩;have k3:=k2.grownO q3 hlt;have g3:=zAb g2 q3;clear h2 k2 g2 q3 H2;have b4:Below X3.heap.size X3 (X3.alloc (.cells #[D J (f:Int),D J 0,G E,D J 0] 29)):=(Below.refl _ _).alloc (Nat.le_refl _) _;have k4:=k3.below b4 k3.lt;have l4:Blk (X3.alloc (.cells #[D J (f:Int),D J 0,G E,D J 0] 29)) X3.heap.size 29 #[D J (f:Int),D J 0,G E,D J 0]:=Blk.new _ _ _;have h4:=h3.below b4;have g4:=zAb g3 (zAv (row:=Z rb) b4);have il:=h3.lt;have oR:=k3.lt;clear h3 k3 g3 b4;go_wp2_with fail
 generalize X3.alloc (.cells #[D J (f:Int),D J 0,G E,D J 0] 29)=X4 at k4 l4 h4 g4 ⊢;generalize X3.heap.size=r1 at l4 il oR ⊢;refine (H3.out X4 h4).mono ?_;rintro e X5 ⟨rfl,h5,q5⟩;have k5:=k4.grownO q5 hlt;have l5:=l4.grownO q5 il;have g5:=zAb g4 q5;obtain ⟨c4,z4,hm⟩:=HM.out X5 h5
 have uh:=qH (fun (q:Bool) hq=>(show RX (X5.setCell ⟨rb,4,U⟩ (G q)) rb F s4∧Blk (X5.setCell ⟨rb,4,U⟩ (G q)) w.heap.size 29 #[D J 0,D J 0,G E,D J 0]∧Blk (X5.setCell ⟨rb,4,U⟩ (G q)) r1 29 #[D J (f:Int),D J 0,G E,D J 0]∧w.grownBy (X5.setCell ⟨rb,4,U⟩ (G q)) (Z rb) from
  ⟨(hm q hq).1,k5.grownO (hm q hq).2 hlt,l5.grownO (hm q hq).2 il,zAb g5 (hm q hq).2⟩))
 clear h4 k4 l4 g4 q5 H3 HM h5 k5 l5 g5 hm;go_upto_region 3 with fail
 go_cut [24] (fun _ wv=>∃wz:World,wz=wv∧RX wz rb F s4∧Blk wz w.heap.size 29 #[D J 0,D J 0,G E,D J 0]∧Blk wz r1 29 #[D J (f:Int),D J 0,G E,D J 0]∧w.grownBy wz (Z rb))
 case first =>
  cases b<;>cases ne<;>cases fa
  all_goals
   go_wp2_with fail
   go_meet
   case rel=>exact ⟨_,rfl,uh.out _ rfl⟩
 case rest =>
  obtain ⟨wz,rfl,h6,k6,l6,g6⟩:=hcut;clear uh c4 z4 n1;have z6:=l6.frozen 2;have d6:(wz.cell? ⟨r1,2,U⟩)=Z (G E):=(l6.cell 2).trans rfl;have l7:Blk (wz.setCell ⟨r1,2,U⟩ (G fa)) r1 29 #[D J (f:Int),D J 0,G fa,D J 0]:=l6.set_ 2 _;have b7:Below (rb+1) wz (wz.setCell ⟨r1,2,U⟩ (G fa)):=(Below.refl _ _).setCell (p:=⟨r1,2,U⟩) il _;have F8:Below w.heap.size wz (wz.setCell ⟨r1,2,U⟩ (G fa)):=(Below.refl _ _).setCell (p:=⟨r1,2,U⟩) (Nat.le_of_lt oR) _;have k7:=k6.far (p:=⟨r1,2,U⟩) (by simp only;omega) (G fa);have h7:=h6.over b7;have g7:=zAc g6 F8;clear k6 l6 g6 h6 b7 F8;go_wp2_with fail
  generalize wz.setCell ⟨r1,2,U⟩ (G fa)=X7 at k7 l7 h7 g7 ⊢;refine (H4.out X7 h7).mono ?_;rintro e X8 ⟨rfl,h8,q8⟩;have k8:=k7.grownO q8 hlt;have l8:=l7.grownO q8 il;have g8:=zAb g7 q8;clear k7 l7 h7 g7 q8 z6 d6;have z8:=l8.frozen 1;have d8:(X8.cell? ⟨r1,1,U⟩)=Z (D J 0):=(l8.cell 1).trans rfl;have l9:Blk (X8.setCell ⟨r1,1,U⟩ (D J lo)) r1 29 #[D J (f:Int),D J lo,G fa,D J 0]:=l8.set_ 1 _;have b9:Below (rb+1) X8 (X8.setCell ⟨r1,1,U⟩ (D J lo)):=(Below.refl _ _).setCell (p:=⟨r1,1,U⟩) il _;have F7:Below w.heap.size X8 (X8.setCell ⟨r1,1,U⟩ (D J lo)):=(Below.refl _ _).setCell (p:=⟨r1,1,U⟩) (Nat.le_of_lt oR) _;have k9:=k8.far (p:=⟨r1,1,U⟩) (by simp only;omega) (D J lo);have h9:=h8.over b9;have g9:=zAc g8 F7;clear k8 l8 g8 h8 b9 F7;go_wp2_with fail
  generalize X8.setCell ⟨r1,1,U⟩ (D J lo)=X9 at k9 l9 h9 g9 ⊢;refine (H5.out X9 h9).mono ?_;rintro e jP ⟨rfl,h10,uE⟩;have Ez:=k9.grownO uE hlt;have yP:=l9.grownO uE il;have FD:=zAb g9 uE;clear k9 l9 h9 g9 uE z8 d8;have z10:=yP.frozen 3;have d10:(jP.cell? ⟨r1,3,U⟩)=Z (D J 0):=(yP.cell 3).trans rfl;have vF:Blk (jP.setCell ⟨r1,3,U⟩ (D J pc)) r1 29 #[D J (f:Int),D J lo,G fa,D J pc]:=yP.set_ 3 _;have F9:Below (rb+1) jP (jP.setCell ⟨r1,3,U⟩ (D J pc)):=(Below.refl _ _).setCell (p:=⟨r1,3,U⟩) il _;have xP:Below w.heap.size jP (jP.setCell ⟨r1,3,U⟩ (D J pc)):=(Below.refl _ _).setCell (p:=⟨r1,3,U⟩) (Nat.le_of_lt oR) _;have ow:=Ez.far (p:=⟨r1,3,U⟩) (by simp only;omega) (D J pc);have nP:=h10.over F9;have nT:=zAc FD xP;clear Ez yP FD h10 F9 xP;have e0:((jP.setCell ⟨r1,3,U⟩ (D J pc)).cell? ⟨r1,0,U⟩)=Z (D J (f:Int)):=(vF.cell 0).trans rfl;have e1:((jP.setCell ⟨r1,3,U⟩ (D J pc)).cell? ⟨r1,1,U⟩)=Z (D J lo):=(vF.cell 1).trans rfl;have e2:((jP.setCell ⟨r1,3,U⟩ (D J pc)).cell? ⟨r1,2,U⟩)=Z (G fa):=(vF.cell 2).trans rfl;have e3:((jP.setCell ⟨r1,3,U⟩ (D J pc)).cell? ⟨r1,3,U⟩)=Z (D J pc):=(vF.cell 3).trans rfl;have f0:((jP.setCell ⟨r1,3,U⟩ (D J pc)).cell? ⟨w.heap.size,0,U⟩)=Z (D J 0):=(ow.cell 0).trans rfl;have f1:((jP.setCell ⟨r1,3,U⟩ (D J pc)).cell? ⟨w.heap.size,1,U⟩)=Z (D J 0):=(ow.cell 1).trans rfl;have f2:((jP.setCell ⟨r1,3,U⟩ (D J pc)).cell? ⟨w.heap.size,2,U⟩)=Z (G E):=(ow.cell 2).trans rfl;have f3:((jP.setCell ⟨r1,3,U⟩ (D J pc)).cell? ⟨w.heap.size,3,U⟩)=Z (D J 0):=(ow.cell 3).trans rfl;have y0:=ow.frozen 0;have y1:=ow.frozen 1;have y2:=ow.frozen 2;have y3:=ow.frozen 3;go_wp2_with fail
  generalize jP.setCell ⟨r1,3,U⟩ (D J pc)=xR at ow vF nP nT e0 e1 e2 e3 f0 f1 f2 f3 y0 y1 y2 y3 ⊢;have hS:=ow.store4 (D J (f:Int)) (D J lo) (G fa) (D J pc);have bS:=zCm (Below.refl (rb+1) xR) (show rb+1≤w.heap.size from hlt) (D J (f:Int)) (D J lo) (G fa) (D J pc);have jO:=zCm (Below.refl w.heap.size xR) (Nat.le_refl w.heap.size) (D J (f:Int)) (D J lo) (G fa) (D J pc);have hX:=nP.over bS;have gX:=zAc nT jO;go_wp2_with fail
  exact zAn rfl rfl hS Tryz.underlying29 rfl (by kernel_rfl) rfl ⟨rfl,hX,gX⟩
def zDZ (ZY:Nat→Act→World→Prop) (ZS:Exit→Act→World→Prop):Exit→Act→World→Prop
 | .goto l,a,w=>ZY l a w
 | e,a,w=>ZS e a w
theorem zEa {P:Program} {a:Act} {w:World} {ZS:Exit→Act→World→Prop} {c:Code} (ZY:Nat→Nat→Act→World→Prop)
  (first:c.wp P (zDZ (fun l a w=>∃n,ZY l n a w) ZS) a w)
  (pass:∀l n a w,ZY l n a w→∃rest,findLabel c l=Z rest∧rest.wp P (zDZ (fun l' a' w'=>∃n',n' < n∧ZY l' n' a' w') ZS) a w):(Code.scope c).wp P ZS a w:=by
 intro b k cs;have hg:∀l rest,findLabel c l=Z rest→gotoIn l (.inScope c :: k)=Z (.code rest :: .inScope c :: k):=fun l rest h=>by simp [gotoIn,h]
 have key:∀n l a w rest,findLabel c l=Z rest→ZY l n a w→∃e a' w',ZS e a' w'∧Arrives P (lone (b.at a (.code rest :: .inScope c :: k)) cs w) b k cs e a' w':=by
  intro n
  induction n using Nat.strongRecOn with
  | _ n ih =>
   intro l a w rest hf hJ;obtain ⟨Ei,yV,hp⟩:=pass l n a w hJ;rw [hf] at yV;injection yV with yV
   subst yV;obtain ⟨e,a₁,w₁,hq,harr⟩:=hp b (.inScope c :: k) cs
   cases e with
   | normal=>exact ⟨.normal,a₁,w₁,hq,Steps.trans harr (.one step_inScope)⟩
   | exit id=>exact ⟨.exit id,a₁,w₁,hq,fun k' hk=>harr k' (by simp [exitTo,hk])⟩
   | goto l' =>
    obtain ⟨n',hlt,xg⟩:=hq;obtain ⟨gK,aP,_⟩:=pass l' n' a₁ w₁ xg;obtain ⟨e₂,a₂,w₂,hq₂,harr₂⟩:=ih n' hlt l' a₁ w₁ gK aP xg;exact ⟨e₂,a₂,w₂,hq₂,.of_steps (harr _ (hg l' gK aP)) harr₂⟩
   | ret=>exact ⟨_,a₁,w₁,hq,harr⟩
   | panic ch=>exact ⟨_,a₁,w₁,hq,harr⟩
   | outgrown=>exact ⟨_,a₁,w₁,hq,harr⟩
 obtain ⟨e,a₁,w₁,hq,harr⟩:=first b (.inScope c :: k) cs
 cases e with
 | normal=>exact ⟨.normal,a₁,w₁,hq,.head step_scope (Steps.trans harr (.one step_inScope))⟩
 | exit id=>exact ⟨.exit id,a₁,w₁,hq,fun k' hk=>.head step_scope (harr k' (by simp [exitTo,hk]))⟩
 | goto l' =>
  obtain ⟨n',xg⟩:=hq;obtain ⟨gK,aP,_⟩:=pass l' n' a₁ w₁ xg;obtain ⟨e₂,a₂,w₂,hq₂,harr₂⟩:=key n' l' a₁ w₁ gK aP xg;exact ⟨e₂,a₂,w₂,hq₂,.of_steps (.head step_scope (harr _ (hg l' gK aP))) harr₂⟩
 | ret=>exact ⟨_,a₁,w₁,hq,.of_steps (.one step_scope) harr⟩
 | panic ch=>exact ⟨_,a₁,w₁,hq,.of_steps (.one step_scope) harr⟩
 | outgrown=>exact ⟨_,a₁,w₁,hq,.of_steps (.one step_scope) harr⟩
theorem zIh {P:Program} {a:Act} {w:World} {ZS:Exit→Act→World→Prop} {body:Code} (l n:Nat) (ZY:Nat→Act→World→Prop) (h0:ZY n a w)
  (pass:∀n a w,ZY n a w→body.wp P (zDZ (fun l' a' w'=>l'=l∧∃n',n' < n∧ZY n' a' w') ZS) a w):(Code.scope ((Code.label l).seq body)).wp P ZS a w:=by
 refine zEa (fun l' n a w=>l'=l∧ZY n a w) ?_ ?_
 ·refine wp_seq (wp_label ?_);refine wp_mono (pass n a w h0) ?_;intro e a' w' hq
  cases e with
  | goto l' =>
   obtain ⟨e1,n',_,h2⟩:=hq;exact ⟨n',e1,h2⟩
  | normal=>exact hq
  | exit id=>exact hq
  | ret=>exact hq
  | panic ch=>exact hq
  | outgrown=>exact hq
 ·rintro l' n a w ⟨rfl,hJ⟩;refine ⟨Code.skip.seq body,by simp [findLabel],wp_seq (wp_skip (wp_mono (pass n a w hJ) ?_))⟩;intro e a' w' hq
  cases e with
  | goto l2 =>
   obtain ⟨e1,n',h1,h2⟩:=hq;exact ⟨n',h1,e1,h2⟩
  | normal=>exact hq
  | exit id=>exact hq
  | ret=>exact hq
  | panic ch=>exact hq
  | outgrown=>exact hq
theorem Blk.store8 {w:World} {g:Nat} {t:TypeId} {v0 v1 v2 v3 v4 v5 v6 v7:Value} (h:Blk w g t #[v0,v1,v2,v3,v4,v5,v6,v7]) (u0 u1 u2 u3 u4 u5 u6 u7:Value) :
  Blk ((((((((w.setCell ⟨g,0,U⟩ u0).setCell ⟨g,1,U⟩ u1).setCell ⟨g,2,U⟩ u2).setCell ⟨g,3,U⟩ u3).setCell ⟨g,4,U⟩ u4).setCell ⟨g,5,U⟩ u5).setCell ⟨g,6,U⟩ u6).setCell ⟨g,7,U⟩ u7) g t #[u0,u1,u2,u3,u4,u5,u6,u7]:=by
 have h0:Blk (w.setCell ⟨g,0,U⟩ u0) g t #[u0,v1,v2,v3,v4,v5,v6,v7]:=h.set_ 0 u0;generalize w.setCell ⟨g,0,U⟩ u0=w0 at h0 ⊢;have h1:Blk (w0.setCell ⟨g,1,U⟩ u1) g t #[u0,u1,v2,v3,v4,v5,v6,v7]:=h0.set_ 1 u1;generalize w0.setCell ⟨g,1,U⟩ u1=w1 at h1 ⊢;have h2:Blk (w1.setCell ⟨g,2,U⟩ u2) g t #[u0,u1,u2,v3,v4,v5,v6,v7]:=h1.set_ 2 u2;generalize w1.setCell ⟨g,2,U⟩ u2=w2 at h2 ⊢;have h3:Blk (w2.setCell ⟨g,3,U⟩ u3) g t #[u0,u1,u2,u3,v4,v5,v6,v7]:=h2.set_ 3 u3;generalize w2.setCell ⟨g,3,U⟩ u3=w3 at h3 ⊢;have h4:Blk (w3.setCell ⟨g,4,U⟩ u4) g t #[u0,u1,u2,u3,u4,v5,v6,v7]:=h3.set_ 4 u4;generalize w3.setCell ⟨g,4,U⟩ u4=w4 at h4 ⊢;have h5:Blk (w4.setCell ⟨g,5,U⟩ u5) g t #[u0,u1,u2,u3,u4,u5,v6,v7]:=h4.set_ 5 u5;generalize w4.setCell ⟨g,5,U⟩ u5=w5 at h5 ⊢;have h6:Blk (w5.setCell ⟨g,6,U⟩ u6) g t #[u0,u1,u2,u3,u4,u5,u6,v7]:=h5.set_ 6 u6;generalize w5.setCell ⟨g,6,U⟩ u6=w6 at h6 ⊢;have h7:Blk (w6.setCell ⟨g,7,U⟩ u7) g t #[u0,u1,u2,u3,u4,u5,u6,u7]:=h6.set_ 7 u7;generalize w6.setCell ⟨g,7,U⟩ u7=w7 at h7 ⊢;exact h7
theorem zAh {a w:World} {g B:Nat} (h:Below B a w) (hB:B≤g) (u0 u1 u2 u3 u4 u5 u6 u7:Value) :
  Below B a ((((((((w.setCell ⟨g,0,U⟩ u0).setCell ⟨g,1,U⟩ u1).setCell ⟨g,2,U⟩ u2).setCell ⟨g,3,U⟩ u3).setCell ⟨g,4,U⟩ u4).setCell ⟨g,5,U⟩ u5).setCell ⟨g,6,U⟩ u6).setCell ⟨g,7,U⟩ u7):=by
 have h4:=zCm h hB u0 u1 u2 u3;generalize (((w.setCell ⟨g,0,U⟩ u0).setCell ⟨g,1,U⟩ u1).setCell ⟨g,2,U⟩ u2).setCell ⟨g,3,U⟩ u3=ZR at h4 ⊢;exact (((h4.setCell (p:=⟨g,4,U⟩) hB _).setCell (p:=⟨g,5,U⟩) hB _).setCell (p:=⟨g,6,U⟩) hB _).setCell (p:=⟨g,7,U⟩) hB _
theorem zWh:(Tryz.prog.info? 86).map (fun i=>(i.zero,i.size,i.bytes))=Z (Z (.agg #[D J 0,D J 0,G E,D J 0,G E]),5,40):=by kernel_rfl
theorem zWi:(Tryz.prog.info? 32).map (fun i=>(i.zero,i.size,i.bytes))=Z (Z (.agg #[D J 0,D J 0,D J 0,D J 0,G E,D J 0,H U 0 0,G E]),8,80):=by kernel_rfl
theorem zKD (w:World):(Instr.build 32 #[]).run Tryz.prog w=.ok (.agg #[D J 0,D J 0,D J 0,D J 0,G E,D J 0,H U 0 0,G E]) w:=run_build w _ _ _ (by kernel_rfl)
theorem zKE (b:Bool) (w:World):(Instr.build 86 #[(1,G b)]).run Tryz.prog w=.ok (.agg #[D J 0,D J 0,G E,D J 0,G b]) w:=run_build w _ _ _ (by kernel_rfl)
theorem zWj {w:World} {ops:Array Oper} {rest:List Oper} {o:Oper} {a:Act} {ZS:Exit→Act→World→Prop} (hgd:o.guard=U) (s x:Operand)
  (ho:o.op=.call { callee:=.builtin .append,args:=#[s,x],argTypes:=#[30,30] })
  {base:Nat} {A:Option Addr} {n c:Nat} {P:List Sp} (hst:Row w base 5 A n c (P.flatMap zIg)) (y:Sp)
  (hs:a.eval s=H A n c) (hx:a.eval x=H (Z ⟨w.heap.size,0,U⟩) 1 1) (N:Nat) (hN:n+1=N) (hn:N≤1000000) (hbase:base≤w.heap.size)
  (h:∀A' c' w',Row w' base 5 A' N c' ((P++[y]).flatMap zIg)→w.grownBy w' (blk A)→(∀k,blk A'=Z k→blk A=Z k∨w.heap.size≤k)→wpList Tryz.prog ops ZS rest (a.put o.dst (H A' N c')) w') :
  wpList Tryz.prog ops ZS (o :: rest) a (w.alloc (.cells #[D J y.s.f,D J y.s.l,G y.s.far,D J y.s.pc,G y.over] 86)):=by
 obtain ⟨i0,hi,aT,az,bt⟩:=info_parts zWh;have hbl:=(Below.refl w.heap.size w).alloc (Nat.le_refl _) (.cells #[D J y.s.f,D J y.s.l,G y.s.far,D J y.s.pc,G y.over] 86);have bO:=hst.below hbl
 refine zOy hgd s x 30 ho 86 i0 _ 5 40 Tryz.underlying30 hi aT az bt rfl (by decide) bO (Src.new (m:=1) (cs:=zIg y) rfl)
  (by intro u hu;simp [zIg] at hu;rcases hu with rfl | rfl | rfl | rfl | rfl<;>rfl) hs hx N hN (by unfold maxLen;omega) (by omega) (by simp;omega) ?_
 intro A' c' w' h1 h2 h3 _;refine h A' c' w' (by rw [List.flatMap_append];simpa using h1) ?_ (fun k hk=>?_)
 ·exact zAb (zAv hbl) h2
 ·rcases h3 k hk with e | e
  ·exact .inl e
  ·exact .inr (by simp at e;omega)
def zEP (w0:World) (rb:Nat) (F:Fm) (o:Og) (s:RS) (e:Ending) (w':World):Prop :=
 ∃B m d,e=.returned (opV o B m d)∧Row w' w0.heap.size 5 B m d (o.path.flatMap zIg)∧m=o.path.length∧RX w' rb F s∧w0.grownBy w' (Z rb)
theorem Row.overO {w w':World} {base rb:Nat} {sz:Nat} {A:Option Addr} {n c:Nat} {xs:List Value} (h:Row w base sz A n c xs) (hg:w.grownBy w' (Z rb)) (hlt:rb < base):Row w' base sz A n c xs:=by
 refine h.kept hg ?_
 cases e:blk A with
 | none=>exact .inl rfl
 | some k=>exact .inr (fun he=>by injection he with he;have:=(h.lt k e).1;omega)
theorem Row.farSet {w:World} {base g:Nat} {sz:Nat} {A:Option Addr} {n c:Nat} {xs:List Value} (h:Row w base sz A n c xs) (q:Nat) (u:Value) (hg:∀k,blk A=Z k→k≠g):Row (w.setCell ⟨g,q,U⟩ u) base sz A n c xs:=by
 refine h.kept (row:=Z g) (zBp _ _) ?_
 cases e:blk A with
 | none=>exact .inl rfl
 | some k=>exact .inr (fun he=>by injection he with he;exact hg k e he)
theorem zFY {k:Nat} (h1:1≤k) (h8:k≤8) (v:List UInt8):(zBk (k:Int)==v)=decide (zBP v=(k:Int)):=by
 by_cases e:zBP v=(k:Int)
 ·obtain ⟨_,_,h3⟩:=zHB (v:=v) (by omega);rw [e] at h3;rw [h3,zDW (by omega) (by omega)];simp
 ·have:zBk (k:Int)≠v:=fun h=>e (by rw [←h];exact zDW (by omega) (by omega))
  rw [decide_eq_false e];simpa using this
end Go.Proofs.YtlmdfmnbcndhoaaGreatDoor
