/-
  Lemmas, part 36. Conditions: each theorem's own.
-/
import Derived.Test.YtlmdfmnbcndhoaaGreatDoorRl34
import Derived.Test.YtlmdfmnbcndhoaaGreatDoorRl35
import Derived.Test.YtlmdfmnbcndhoaaGreatDoorRl28
namespace Go.Proofs.YtlmdfmnbcndhoaaGreatDoor
open Go.RowKit
theorem zRZ (a:Lt) (w:World):(Instr.buildSlice 53 1 #[(0,ltV a)]).run Tryz.prog w=.ok (.slice (some ⟨w.heap.size,0,none⟩) 1 1) (w.alloc (.cells ([a].flatMap ltC).toArray 76)):=by
 obtain ⟨i0,hi,ci,be,cH⟩:=info_parts zMv;refine run_buildSlice w _ _ 1 _ _ i0 _ Tryz.underlying53 hi ci (by rw [be];omega) (by rw [be];omega) ?_;rw [be]
 kernel_rfl
theorem zWj (i:Int) (o:Bool) (w:World):(Instr.build 76 #[(0,.int .i64 2),(3,.int .i64 i),(5,.bool o)]).run Tryz.prog w=.ok (.agg #[.int .i64 2,.int .i64 0,.int .i64 0,.int .i64 i,.int .i64 0,.bool o]) w:=run_build w _ _ _ (by kernel_rfl)
theorem zWk (g r:Int) (w:World):(Instr.build 76 #[(0,.int .i64 1),(1,.int .i64 g),(2,.int .i64 r)]).run Tryz.prog w=.ok (.agg #[.int .i64 1,.int .i64 g,.int .i64 r,.int .i64 0,.int .i64 0,.bool false]) w:=run_build w _ _ _ (by kernel_rfl)
theorem zQh {w:World} {ops:Array Oper} {rest:List Oper} {o:Oper} {a:Act} {Q':Exit→Act→World→Prop} (hgd:o.guard=none) (s x:Operand)
  (ho:o.op=.call { callee:=.builtin .append,args:=#[s,x],argTypes:=#[53,53] })
  {base:Nat} {A:Option Addr} {n c:Nat} {L:List Lt} (hst:OwnL w base A n c L) (M:List Lt) (m:Nat) (hm:M.length=m) (hok:∀x∈M,LtOk x) (hs:a.eval s=.slice A n c) (hx:a.eval x=.slice (some ⟨w.heap.size,0,none⟩) m m)
  (N:Nat) (hN:n+m=N) (hn:N≤1000000) (hbase:base≤w.heap.size)
  (h:∀A' c' w',OwnL w' base A' N c' (L++M)→w.grownBy w' (blk A)→(∀k,blk A'=some k→blk A=some k∨w.heap.size≤k)→wpList Tryz.prog ops Q' rest (a.put o.dst (.slice A' N c')) w') :
  wpList Tryz.prog ops Q' (o :: rest) a (w.alloc (.cells (M.flatMap ltC).toArray 76)):=by
 have hbl:=(Below.refl w.heap.size w).alloc (Nat.le_refl _) (.cells (M.flatMap ltC).toArray 76);have hO:=OwnL.block (Blk.new w 76 (M.flatMap ltC).toArray) (base:=0) (Nat.zero_le _) hok (by omega);subst hm;refine zWg hgd s x ho (hst.next hbl) hO.lets hs hx N hN (by omega) (Nat.le_trans hbase hbl.size) ?_;intro A' c' w' h1 h2 h3;refine h A' c' w' h1 (zAb (zCW hbl _) h2) fun k hk=>?_
 rcases h3 k hk with e | e
 ·exact .inl e
 ·exact .inr (Nat.le_trans hbl.size e)
theorem SgW.pushed {Y w w':World} {oB:Nat} {K:Int} {A A':Option Addr} {n c N c':Nat} {L L':List Lt} (h:SgW Y w oB K A n c L) (hY:Y.heap.size≤oB) (hown:OwnL w' Y.heap.size A' N c' L') (hg:w.grownBy w' (blk A)) (hl:∀k,blk A'=some k→blk A=some k∨w.heap.size≤k) :
  Blk w' oB 55 #[.int .i64 K,.slice A n c]∧SgW Y (w'.setCell ⟨oB,1,none⟩ (.slice A' N c')) oB K A' N c' L':=by
 have hb:Blk w' oB 55 #[.int .i64 K,.slice A n c]:=h.bk.grown hg (fun e=>h.far oB e.symm rfl);have hf:∀q,blk A'=some q→q≠oB:=fun q hq=>by
  rcases hl q hq with e | e
  ·exact h.far q e
  ·have:=h.bk.lt;omega
 have hold:Below Y.heap.size Y w':=h.old.trans ((Below.refl _ _).grown hg h.old.size (fun k hk=>(h.own.row.lt k hk).1));refine ⟨hb,⟨⟨hown.row.farSet 1 _ hf,hown.fits,hown.le⟩,hb.set_ 1 _,hf,hold.setCell (p:=⟨oB,1,none⟩) hY _⟩⟩
theorem zQi {α β:Type} (f:α→List β) {l:List α} {i:Nat} {x:α} (h:l[i]? = some x):(l.take (i+1)).flatMap f=(l.take i).flatMap f++f x:=by
 rw [List.take_add_one,h];simp
theorem zTj {a b:Lt} (ha:LtOk a) (hb:LtOk b):∀x∈[a,b],LtOk x:=by
 intro x hx;simp only [List.mem_cons,List.not_mem_nil,or_false] at hx;rcases hx with rfl | rfl
 ·exact ha
 ·exact hb
set_option maxHeartbeats 12800000 in
set_option maxRecDepth 100000 in
theorem zLU (kk:Nat) (B:Option Addr) (n d:Nat) (l:List Bi) (g:Nat) (M:List Int) (w:World) (hB:Bits w B n l) (hM:OwnI w 0 g (kk+2) M) (hk:kk≤40) (hn:n≤20001)
  (hl:∀x∈l,0≤x.f∧x.f≤(kk:Int)∧0≤x.n∧x.n≤999999999) (hMb:∀j,j < kk+2→∃v:Nat,M[j]? = some (v:Int)∧v≤100000) :
  Calls Tryz.prog 81 #[.int .i64 (kk:Int),.slice B n d,.slice (some ⟨g,0,none⟩) (kk+2) (kk+2)] w (zLS w (kk:Int) (zAT M l)):=by
 have ah:Below w.heap.size w (w.alloc (.cells #[.int .i64 0,.slice none 0 0] 55)):=(Below.refl _ _).alloc (Nat.le_refl _) _;have hk0:Blk (w.alloc (.cells #[.int .i64 0,.slice none 0 0] 55)) w.heap.size 55 #[.int .i64 0,.slice none 0 0]:=Blk.new _ _ _;have aR:=qH hB.len;have HB:=qH hB;have HM:=qH hM;have HL:=qH hl;have AM:=qH hMb;obtain ⟨K,hK⟩:∃K:Int,(kk:Int)=K:=⟨_,rfl⟩
 rw [hK];clear hl hB hM hMb hK;go_enter Tryz.func81,Tryz.ntmps81;go_upto_region 1 with fail
 generalize w.alloc (.cells #[.int .i64 0,.slice none 0 0] 55)=Y at ah hk0 ⊢;have ce:SgW Y (Y.alloc (.cells #[.int .i64 K,.slice none 0 0] 55)) Y.heap.size K none 0 0 (zAT M (l.take 0)):=⟨OwnL.nil _ _,Blk.new _ _ _,fun q hq=>(by cases hq),(Below.refl _ _).alloc (Nat.le_refl _) _⟩;go_upto_region 2 with fail
 generalize hZ:Y.alloc (.cells #[.int .i64 K,.slice none 0 0] 55)=Z at ce ⊢;clear hZ;obtain ⟨oB,nE⟩:∃a,Y.heap.size=a:=⟨_,rfl⟩
 have sK:Y.heap.size≤oB:=by omega
 rw [nE];have ce:SgW Y Z oB K none 0 0 (zAT M (l.take 0)):=by rw [←nE];exact ce
 clear nE;go_wp2_with fail
 go_loopw [16] (fun zy wv=>∃(i m:Nat) (X:World) (A1:Option Addr) (c1:Nat),X=wv∧i≤n∧m≤2*i∧zy=.int .i64 i∧SgW Y X oB K A1 m c1 (zAT M (l.take i))) (fun zy _=>n-(intOf zy).toNat)
 case atStart=>exact ⟨0,0,_,none,0,rfl,by omega,by omega,rfl,ce⟩
 case round =>
  obtain ⟨i,m,X,A1,c1,hX,hi,hm,rfl,hW⟩:=hrel;subst hX;clear ce;by_cases hlt:i < n
  ·have j0:(0:Int)≤(i:Int):=by omega
   have j1:(i:Int) < (n:Int):=by omega
   have hold:=zAa ah hW.old ah.size;have nM:=HB.out.below hold;have Cy:OwnI X 0 g (kk+2) M:=HM.out.below hold HM.out.lt;have hli:l[i]? = some (ba l i):=zMM (by rw [aR.out];exact hlt);have hbd:=HL.out _ (List.mem_of_getElem? hli);obtain ⟨gb,ob,rfl,hgb,⟨x0,x1,x2⟩,hok⟩:=nM.at_ hlt;have hbl:=(Below.refl X.heap.size X).alloc (Nat.le_refl _) (.cells #[.int .i64 (ba l i).f,.int .i64 (ba l i).n,.bool (ba l i).b] 174);have ck:Blk (X.alloc (.cells #[.int .i64 (ba l i).f,.int .i64 (ba l i).n,.bool (ba l i).b] 174)) X.heap.size 174 #[.int .i64 (ba l i).f,.int .i64 (ba l i).n,.bool (ba l i).b]:=Blk.new _ _ _;have cS:=hW.next hbl;have sM:=Cy.below hbl Cy.lt;have pH:=qH (zQi (zLL M) hli);clear hW hbl nM Cy hold hok hli;go_upto_if 22 with fail
   clear x0 x1 x2;generalize X.alloc (.cells #[.int .i64 (ba l i).f,.int .i64 (ba l i).n,.bool (ba l i).b] 174)=X1 at ck cS sM ⊢;generalize X.heap.size=a9 at ck ⊢;obtain ⟨⟨ff,nn,bb⟩,hbe⟩:∃b,ba l i=b:=⟨_,rfl⟩
   rw [hbe] at ck pH hbd ⊢;simp only at ck hbd ⊢;clear hbe;by_cases hf0:ff=0
   ·subst hf0;obtain ⟨h0,h1,h2⟩:=cQ3 ck;have o1:X1.cell? ⟨oB,1,none⟩=some (.slice A1 m c1):=(cS.bk.cell 1).trans rfl;have hbs:=fun w=>zRZ ⟨2,0,0,nn,0,bb⟩ w
    simp only [ltV] at hbs;have xq:∀x∈[(⟨2,0,0,nn,0,bb⟩:Lt)],LtOk x:=by
     intro x hx;rw [List.mem_singleton.1 hx];exact ⟨⟨by simp only;omega,by simp only;omega⟩,⟨by simp only;omega,by simp only;omega⟩,⟨by simp only;omega,by simp only;omega⟩,⟨by simp only;omega,by simp only;omega⟩,⟨by simp only;omega,by simp only;omega⟩⟩
    have Dv:=qH xq;have bh:Y.heap.size≤X1.heap.size:=cS.old.size;have mu:m+1≤1000000:=by omega
    have sF:m+1≤2*(i+1):=by omega
    clear xq ck sM;go_upto_region 12 with (at_builtin;refine zEV ?_)
    refine qH ?_;refine zQh (base:=Y.heap.size) (A:=A1) (n:=m) (c:=c1) (L:=zAT M (l.take i)) rfl (.tmp 24) (.tmp 30) ?_ ?_ [⟨2,0,0,nn,0,bb⟩] 1 rfl Dv.out ?_ ?_ (m+1) rfl mu bh ?_
    ·rfl
    ·exact cS.own
    ·rfl
    ·rfl
    intro A2 c2 w9 fH cl hl9';obtain ⟨fU,eJ⟩:=cS.pushed sK fH cl hl9';have p1:w9.cell? ⟨oB,1,none⟩=some (.slice A1 m c1):=(fU.cell 1).trans rfl;have z1:=fU.frozen 1;have jm:SgW Y (w9.setCell ⟨oB,1,none⟩ (.slice A2 (m+1) c2)) oB K A2 (m+1) c2 (zAT M (l.take (i+1))):=by
     unfold zAT;rw [pH.out];exact eJ
    have pi:=qH jm;clear cS fH cl hl9' eJ jm fU h0 h1 h2 o1 hbs;go_wp2_with fail
    go_roundw
    case rel=>exact ⟨i+1,m+1,_,A2,c2,rfl,by omega,sF,by go_num,pi.out⟩
    case measure=>simp [intOf];omega
   ·obtain ⟨q,rfl⟩:∃q:Nat,ff=(q:Int):=⟨ff.toNat,by omega⟩
    obtain ⟨p,hp⟩:∃p:Nat,q=p+1:=⟨q-1,by omega⟩
    have k0:((q:Int)==0)=false:=by simp;omega
    have hqp:(q:Int)-1=(p:Int):=by omega
    have hpk:p < kk+2:=by omega
    have hqk:q < kk+2:=by omega
    obtain ⟨v1,tJ,By⟩:=AM.out p hpk;obtain ⟨v2,vF,Bx⟩:=AM.out q hqk;obtain ⟨r2,mr⟩:∃r:Int,(v2:Int)-nn=r:=⟨_,rfl⟩
    obtain ⟨r3,BF⟩:∃r:Int,r2+1=r:=⟨_,rfl⟩
    have iI:=qH (show zLL M ⟨(q:Int),nn,bb⟩=if bb then [⟨1,(p:Int),(v1:Int)+nn,0,0,false⟩,⟨1,(q:Int),r3,0,0,false⟩] else [⟨1,(q:Int),r3,0,0,false⟩,⟨1,(p:Int),(v1:Int)+nn,0,0,false⟩] by
     unfold zLL ia
     simp only
     rw [if_neg (by omega),hqp,show ((p:Int)).toNat=p by omega,show ((q:Int)).toNat=q by omega,tJ,vF]
     simp only [Option.getD_some,mr,BF])
    obtain ⟨h0,h1⟩:=cQ2 ck;have e1:=sM.cell tJ;have nd:=(Below.refl X1.heap.size X1).alloc (Nat.le_refl _) (.cells #[.int .i64 0,.int .i64 0,.int .i64 0,.int .i64 0,.int .i64 0,.bool false] 76);have xE:=ck.below nd ck.lt;obtain ⟨ci,be⟩:=cQ2 xE;have cH:=(sM.below nd sM.lt).cell tJ;have i4:(0:Int)≤(p:Int):=by omega
    have i6:(p:Int) < (kk:Int)+2:=by omega
    have i7:(0:Int)≤(q:Int):=by omega
    have i9:(q:Int) < (kk:Int)+2:=by omega
    have xt:LtOk ⟨1,(p:Int),(v1:Int)+nn,0,0,false⟩:=⟨⟨by simp only;omega,by simp only;omega⟩,⟨by simp only;omega,by simp only;omega⟩,⟨by simp only;omega,by simp only;omega⟩,⟨by simp only;omega,by simp only;omega⟩,⟨by simp only;omega,by simp only;omega⟩⟩;have xm:LtOk ⟨1,(q:Int),r3,0,0,false⟩:=⟨⟨by simp only;omega,by simp only;omega⟩,⟨by simp only;omega,by simp only;omega⟩,⟨by simp only;omega,by simp only;omega⟩,⟨by simp only;omega,by simp only;omega⟩,⟨by simp only;omega,by simp only;omega⟩⟩;have mu:m+2≤1000000:=by omega
    have sF:m+2≤2*(i+1):=by omega
    have AN:=qH sF;have GH:=qH mu;have vK:i+1≤n:=by omega
    have AQ:=qH vK;have w1:IntKind.i64.wrap ((q:Int)-1)=(p:Int):=by rw [hqp];exact IntWalk.i64_in _ (by omega)
    have w2:IntKind.i64.wrap ((v1:Int)+nn)=(v1:Int)+nn:=IntWalk.i64_in _ (by omega);have w3:IntKind.i64.wrap ((v2:Int)-nn)=r2:=by rw [mr];exact IntWalk.i64_in _ (by omega)
    have w4:IntKind.i64.wrap (r2+1)=r3:=by rw [BF];exact IntWalk.i64_in _ (by omega)
    clear mr BF;have GE:=qH xt;have GD:=qH xm;have bL:=(Below.refl X1.heap.size X1).alloc (Nat.le_refl _) (.cells #[.int .i64 1,.int .i64 (p:Int),.int .i64 ((v1:Int)+nn),.int .i64 0,.int .i64 0,.bool false] 76);have kL:Blk (X1.alloc (.cells #[.int .i64 1,.int .i64 (p:Int),.int .i64 ((v1:Int)+nn),.int .i64 0,.int .i64 0,.bool false] 76)) X1.heap.size 76 #[.int .i64 1,.int .i64 (p:Int),.int .i64 ((v1:Int)+nn),.int .i64 0,.int .i64 0,.bool false]:=Blk.new _ _ _;have dc:=ck.below bL ck.lt;have cA:=cS.next bL;have qe:=sM.below bL sM.lt;have vk:=qH vF;clear hp hf0 tJ vF xt xm nd xE ck cS sM bL hbd;go_upto_region 7 with fail
    go_region
    clear h0 h1 e1 ci be cH w1 w2 i4 i6 hqp hpk hqk By Bx hlt sF mu vK;generalize X1.alloc (.cells #[.int .i64 1,.int .i64 (p:Int),.int .i64 ((v1:Int)+nn),.int .i64 0,.int .i64 0,.bool false] 76)=X2 at kL dc cA qe ⊢;generalize X1.heap.size=jw at kL ⊢;have kL:=kL.drew;have dc:=dc.drew;have cA:=cA.next (Below.refl _ _).drew;have qe:=qe.drew;generalize X2.drew=X3 at kL dc cA qe ⊢;obtain ⟨h0,h1⟩:=cQ2 dc;have e1:=qe.cell vk.out;have nd:=(Below.refl X3.heap.size X3).alloc (Nat.le_refl _) (.cells #[.int .i64 0,.int .i64 0,.int .i64 0,.int .i64 0,.int .i64 0,.bool false] 76);have xE:=dc.below nd dc.lt;obtain ⟨ci,be⟩:=cQ2 xE;have cH:=(qe.below nd qe.lt).cell vk.out;have GJ:=qH kL;have wj:=qH dc;have vj:=qH cA;have gE:=qH qe;clear kL dc cA qe nd xE ci be cH;go_upto_region 8 with fail
    have KP:=qH (show ∀wx,Below X3.heap.size X3 wx→(Below X3.heap.size X3 wx∧wx.cell? ⟨a9,0,none⟩=some (.int .i64 (q:Int))∧wx.cell? ⟨a9,1,none⟩=some (.int .i64 nn)∧wx.cell? ⟨g,q,none⟩=some (.int .i64 (v2:Int))) from
     fun wx h=>⟨h,((wj.out.below h wj.out.lt).cell 0).trans rfl,((wj.out.below h wj.out.lt).cell 1).trans rfl,(gE.out.below h gE.out.lt).cell vk.out⟩)
    first
     | go_region_held3 (fun wx=>Below X3.heap.size X3 wx∧wx.cell? ⟨a9,0,none⟩=some (.int .i64 (q:Int))∧wx.cell? ⟨a9,1,none⟩=some (.int .i64 nn)∧wx.cell? ⟨g,q,none⟩=some (.int .i64 (v2:Int))) (first | assumption | exact KP.out _ (Below.refl _ _).drew | exact KP.out _ (zDD (Below.refl _ _).drew _)) (first | fail)
     | fail
    clear h0 h1 e1 w3 w4 KP;have bR:=(Below.refl X3.heap.size X3).alloc (Nat.le_refl _) (.cells #[.int .i64 1,.int .i64 (q:Int),.int .i64 r3,.int .i64 0,.int .i64 0,.bool false] 76);have kR:Blk (X3.alloc (.cells #[.int .i64 1,.int .i64 (q:Int),.int .i64 r3,.int .i64 0,.int .i64 0,.bool false] 76)) X3.heap.size 76 #[.int .i64 1,.int .i64 (q:Int),.int .i64 r3,.int .i64 0,.int .i64 0,.bool false]:=Blk.new _ _ _;have vD:=GJ.out.below bR GJ.out.lt;have fJ:=wj.out.below bR wj.out.lt;have dx:=vj.out.next bR;generalize X3.alloc (.cells #[.int .i64 1,.int .i64 (q:Int),.int .i64 r3,.int .i64 0,.int .i64 0,.bool false] 76)=X4 at kR vD fJ dx ⊢;generalize X3.heap.size=a11 at kR ⊢;have kR:=kR.drew;have vD:=vD.drew;have fJ:=fJ.drew;have dx:=dx.next (Below.refl _ _).drew;generalize X4.drew=X5 at kR vD fJ dx ⊢;have h2:X5.cell? ⟨a9,2,none⟩=some (.bool bb):=(fJ.cell 2).trans rfl;have o1:X5.cell? ⟨oB,1,none⟩=some (.slice A1 m c1):=(dx.bk.cell 1).trans rfl;obtain ⟨y0,y1,y2,y3,y4,y5⟩:=cQ6 vD;obtain ⟨u0,u1,u2,u3,u4,u5⟩:=cQ6 kR;have bh:Y.heap.size≤X5.heap.size:=dx.old.size;clear kR vD fJ
    cases bb with
    | true =>
     have hbs:=fun w=>zOV ⟨1,(p:Int),(v1:Int)+nn,0,0,false⟩ ⟨1,(q:Int),r3,0,0,false⟩ w
     simp only [ltV] at hbs;go_upto_region 12 with (at_builtin;refine zEV ?_)
     refine qH ?_;refine zQh (base:=Y.heap.size) (A:=A1) (n:=m) (c:=c1) (L:=zAT M (l.take i)) rfl (.tmp 61) (.tmp 64) ?_ ?_ [⟨1,(p:Int),(v1:Int)+nn,0,0,false⟩,⟨1,(q:Int),r3,0,0,false⟩] 2 rfl (zTj GE.out GD.out) ?_ ?_ (m+2) rfl GH.out bh ?_
     ·rfl
     ·exact dx.own
     ·rfl
     ·rfl
     intro A2 c2 w9 fH cl hl9';obtain ⟨fU,eJ⟩:=dx.pushed sK fH cl hl9';have p1:w9.cell? ⟨oB,1,none⟩=some (.slice A1 m c1):=(fU.cell 1).trans rfl;have z1:=fU.frozen 1;have jm:SgW Y (w9.setCell ⟨oB,1,none⟩ (.slice A2 (m+2) c2)) oB K A2 (m+2) c2 (zAT M (l.take (i+1))):=by
      unfold zAT;rw [pH.out,iI.out];exact eJ
     have pi:=qH jm;clear dx fH cl hl9' eJ jm fU h2 o1 hbs y0 u0 y1 u1 y2 u2 y3 u3 y4 u4 y5 u5;go_wp2_with fail
     go_roundw
     case rel=>exact ⟨i+1,m+2,_,A2,c2,rfl,AQ.out,AN.out,by go_num,pi.out⟩
     case measure=>simp [intOf];omega
    | false =>
     have hbs:=fun w=>zOV ⟨1,(q:Int),r3,0,0,false⟩ ⟨1,(p:Int),(v1:Int)+nn,0,0,false⟩ w
     simp only [ltV] at hbs;go_upto_region 12 with (at_builtin;refine zEV ?_)
     refine qH ?_;refine zQh (base:=Y.heap.size) (A:=A1) (n:=m) (c:=c1) (L:=zAT M (l.take i)) rfl (.tmp 68) (.tmp 71) ?_ ?_ [⟨1,(q:Int),r3,0,0,false⟩,⟨1,(p:Int),(v1:Int)+nn,0,0,false⟩] 2 rfl (zTj GD.out GE.out) ?_ ?_ (m+2) rfl GH.out bh ?_
     ·rfl
     ·exact dx.own
     ·rfl
     ·rfl
     intro A2 c2 w9 fH cl hl9';obtain ⟨fU,eJ⟩:=dx.pushed sK fH cl hl9';have p1:w9.cell? ⟨oB,1,none⟩=some (.slice A1 m c1):=(fU.cell 1).trans rfl;have z1:=fU.frozen 1;have jm:SgW Y (w9.setCell ⟨oB,1,none⟩ (.slice A2 (m+2) c2)) oB K A2 (m+2) c2 (zAT M (l.take (i+1))):=by
      unfold zAT;rw [pH.out,iI.out];exact eJ
     have pi:=qH jm;clear dx fH cl hl9' eJ jm fU h2 o1 hbs y0 u0 y1 u1 y2 u2 y3 u3 y4 u4 y5 u5;go_wp2_with fail
     go_roundw
     case rel=>exact ⟨i+1,m+2,_,A2,c2,rfl,AQ.out,AN.out,by go_num,pi.out⟩
     case measure=>simp [intOf];omega
  ·have j1:¬(i:Int) < (n:Int):=by omega
   have hin:l.take i=l:=by rw [List.take_of_length_le (by rw [aR.out];omega)]
   rw [hin] at hW;have uI:w.heap.size < Y.heap.size:=hk0.lt;have ft:=hk0.below hW.old uI;have e0:X.cell? ⟨oB,0,none⟩=some (.int .i64 K):=(hW.bk.cell 0).trans rfl;have e1:X.cell? ⟨oB,1,none⟩=some (.slice A1 m c1):=(hW.bk.cell 1).trans rfl;obtain ⟨r0,r1⟩:=cQ2 ft;have z0:=ft.frozen 0;have z1:=ft.frozen 1;have vp:=qH ft;have HW:=qH hW;have nD:=ah.size;clear hin hlt hW ft;go_wp2_with fail
   have hS:Blk ((X.setCell ⟨w.heap.size,0,none⟩ (.int .i64 K)).setCell ⟨w.heap.size,1,none⟩ (.slice A1 m c1)) w.heap.size 55 #[.int .i64 K,.slice A1 m c1]:=(vp.out.set_ 0 _).set_ 1 _;have gS:=zAh (zAh (World.grownBy.refl X (some w.heap.size)) (p:=⟨w.heap.size,0,none⟩) (.inl rfl) (.int .i64 K)) (p:=⟨w.heap.size,1,none⟩) (.inl rfl) (.slice A1 m c1);have gA:=((zAa ah HW.out.old nD).setCell (p:=⟨w.heap.size,0,none⟩) (Nat.le_refl _) (.int .i64 K)).setCell (p:=⟨w.heap.size,1,none⟩) (Nat.le_refl _) (.slice A1 m c1);have uK:OwnL ((X.setCell ⟨w.heap.size,0,none⟩ (.int .i64 K)).setCell ⟨w.heap.size,1,none⟩ (.slice A1 m c1)) w.heap.size A1 m c1 (zAT M l):=by
    refine ⟨(HW.out.own.row.kept gS ?_).mono nD,HW.out.own.fits,HW.out.own.le⟩
    cases hb:blk A1 with
    | none=>exact .inl rfl
    | some q=>exact .inr (by have:=(HW.out.own.row.lt q hb).1;simp;omega)
   (try simp only [Exit.inBlock,Exit.then])
   refine zAu rfl rfl hS Tryz.underlying55 rfl (by kernel_rfl) rfl ?_;exact ⟨A1,m,c1,rfl,uK,gA⟩
open Go.Maps (Keyed)
abbrev bV (b:Bi):Value:=.agg #[.int .i64 b.f,.int .i64 b.n,.bool b.b]
theorem zTk:174 < Tryz.prog.types.size:=of_decide_eq_true (by kernel_rfl)
theorem zWl:Tryz.prog.keyTypeAt 2 174=true:=by kernel_rfl
theorem zMT:Keyed Tryz.prog 174 :=
 Keyed.of_law (deep_law_laid zUC (m:=2) (by omega) zTk zWl (by rw [Tryz.underlying174]))
theorem zUP:Tryz.prog.keyType 174=true:=by kernel_rfl
theorem zMU:Tryz.prog.cellsOf 174=3:=by kernel_rfl
theorem zHN {P : Program} {m : Nat} {t : TypeId} {fs : Array Field} {cs : List Value} (hu : P.underlying t = some (.struct fs)) (h1 : cs.length = P.cellsOf t) (h2 : fs.all (·.name != "_") = true) :
  P.keyLits (m+1) t cs=(fs.toList.mapM fun f=>P.keyLits m f.type ((cs.drop f.offset).take (P.cellsOf f.type))).map List.flatten:=by
 simp only [Program.keyLits,hu];rw [if_pos ⟨h1,h2⟩]
theorem zUQ (m:Nat) {x:Bi} (h:BiOk x):Tryz.prog.keyLits (m+2) 174 [.int .i64 x.f,.int .i64 x.n,.bool x.b]=some [.int .i64 x.f,.int .i64 x.n,.bool x.b]:=by
 have hu:=Tryz.underlying174;have c3:Tryz.prog.cellsOf 3=1:=by kernel_rfl
 have c4:Tryz.prog.cellsOf 4=1:=by kernel_rfl
 have k1:∀y,I64 y→Tryz.prog.keyLits (m+1) 3 [.int .i64 y]=some [.int .i64 y]:=fun y hy=>by
  have w1:(Lit.int .i64 y).wf=true:=Go.WalkArith.wf_i64 hy;simp only [Program.keyLits,Tryz.underlying3];rw [if_pos ⟨trivial,w1⟩]
 have k2:∀b:Bool,Tryz.prog.keyLits (m+1) 4 [.bool b]=some [.bool b]:=fun b=>by
  simp only [Program.keyLits,Tryz.underlying4]
 have k3:=k1 x.f h.f;have k4:=k1 x.n h.n;have k5:=k2 x.b;rw [zHN hu (by rw [zMU];rfl) (by kernel_rfl)];simp only [List.mapM_cons,List.mapM_nil,c3,c4,List.drop_zero,List.take_succ_cons,List.take_zero,List.drop_succ_cons,k3,k4,k5];rfl
theorem zTl {x:Bi} (h:BiOk x):∃l,keyOf Tryz.prog 174 (bV x)=some l:=by
 obtain ⟨m,hm⟩:∃m,Tryz.prog.types.size=m+1:=⟨Tryz.prog.types.size-1,by have:=zTk;omega⟩
 have hl:=zUQ m h;have hf:(bV x).formed Tryz.prog 174=true:=by
  simp [Value.formed,zMU,Tryz.underlying174]
 have hc:(bV x).cells.toList=[.int .i64 x.f,.int .i64 x.n,.bool x.b]:=rfl;unfold keyOf;rw [Tryz.underlying174];simp only;rw [zUP,hf,hc,hm,hl];exact ⟨_,rfl⟩
theorem zTm {x y:Bi} (h:bV x=bV y):x=y:=by
 obtain ⟨a,b,c⟩:=x;obtain ⟨a',b',c'⟩:=y;simp [bV] at h;simp [h]
structure Seen (w:World) (b:Nat) (ks:List Bi):Prop where
 map:KMap w Tryz.prog 174 b (ks.map fun k=>(bV k,.bool true))
section
variable {w w':World} {b:Nat} {ks:List Bi}
theorem Seen.look (h:Seen w b ks) {x:Bi} (hx:BiOk x):(Instr.lookup 176 (.map (some b)) (bV x) false).run Tryz.prog w=.ok (.bool (decide (x∈ks))) w:=by
 obtain ⟨l,hl⟩:=zTl hx;rcases h.map.look zMT Tryz.underlying176 (zRL w) hl with ⟨h1,h2⟩ | ⟨j,v,h1,h2⟩
 ·have hn:x ∉ ks:=fun hm=>h2 (bV x,.bool true) (List.mem_map.2 ⟨x,hm,rfl⟩) rfl
  rw [h1,decide_eq_false hn]
 ·rw [List.getElem?_map] at h2
  cases hk:ks[j]? with
  | none=>rw [hk] at h2;cases h2
  | some y =>
   rw [hk] at h2;simp only [Option.map_some,Option.some.injEq,Prod.mk.injEq] at h2;obtain ⟨e1,rfl⟩:=h2;have:=zTm e1;subst this;rw [h1,decide_eq_true (List.mem_of_getElem? hk)]
theorem Seen.push (h:Seen w b ks) {x:Bi} (hx:BiOk x) (hn:x ∉ ks) :
  ∃w',(Instr.mapUpdate 176 (.map (some b)) (bV x) (.bool true)).run Tryz.prog w=.ok () w'∧Seen w' b (ks++[x])∧w.grownBy w' (some b):=by
 obtain ⟨l,hl⟩:=zTl hx
 obtain ⟨w',h1,h2,h3⟩:=h.map.push zMT Tryz.underlying176 (val:=.bool true) hl (fun p hp e=>by
  obtain ⟨y,hy,rfl⟩:=List.mem_map.1 hp
  exact hn (by rw [←zTm e];exact hy))
 exact ⟨w',h1,⟨by rw [List.map_append];exact h2⟩,h3⟩
theorem Seen.lt (h:Seen w b ks):b < w.heap.size:=h.map.lt
theorem Seen.made (w:World):Seen (w.alloc (.map #[] 0)) w.heap.size []:=⟨KMap.made w _ _⟩
theorem Seen.below {B:Nat} (h:Seen w b ks) (hb:Below B w w') (hB:b < B):Seen w' b ks:=⟨h.map.below hb hB⟩
theorem Seen.setCell (h:Seen w b ks) {p:Addr} (hp:b≠p.block) (u:Value):Seen (w.setCell p u) b ks:=⟨h.map.setCell hp u⟩
end
def zFi (w0:World) (k:Nat) (l:List Bi) (e:Ending) (w':World):Prop :=
 (zFR l=true∧∃g,e=.returned (.tuple #[.slice (some ⟨g,0,none⟩) (k+2) (k+2),.int .i64 ((zFQ l / 2:Nat):Int),.bool true])∧OwnI w' w0.heap.size g (k+2) (zCt k l)∧Below w0.heap.size w0 w') ∨
 (zFR l=false∧e=.returned (.tuple #[.slice none 0 0,.int .i64 0,.bool false])∧Below w0.heap.size w0 w')
theorem zSa {l:List Bi} {i:Nat} {x:Bi} (hx:l[i]? = some x) (h:zGg x∈(l.take i).map zGg):zFR l=false:=by
 unfold zFR;rw [decide_eq_false,Bool.false_and];intro hn;obtain ⟨j,hj⟩:=List.getElem?_of_mem h;rw [List.getElem?_map,List.getElem?_take] at hj;split at hj
 ·rename_i hji
  cases hq:l[j]? with
  | none=>rw [hq] at hj;cases hj
  | some y =>
   rw [hq] at hj;simp only [Option.map_some,Option.some.injEq] at hj;have hlt:=(List.getElem?_eq_some_iff.1 hx).1;have:=(List.getElem?_inj (l:=l.map zGg) (i:=j) (j:=i) (by rw [List.length_map];omega) hn).1 (by rw [List.getElem?_map,List.getElem?_map,hq,hx];simp [hj]);omega
 ·cases hj
theorem zQj {l:List Bi} {x:Bi} (hx:x∈l) (h:zJn l x=true):zFR l=false:=by
 unfold zFR;have:(l.all fun b=>!zJn l b)=false:=by
  rw [List.all_eq_false];exact ⟨x,hx,by rw [h];simp⟩
 rw [this,Bool.and_false]
theorem zSb {l:List Bi} (h1:(l.map zGg).Nodup) (h2:∀i,i < l.length→zJn l (ba l i)=false):zFR l=true:=by
 unfold zFR;rw [decide_eq_true h1,Bool.true_and,List.all_eq_true];intro x hx;obtain ⟨i,hi⟩:=List.getElem?_of_mem hx;have:=h2 i (List.getElem?_eq_some_iff.1 hi).1;rw [zXm hi] at this;rw [this];rfl
theorem zKD {l:List Bi} {i:Nat} {x:Bi} (h:l[i]? = some x):l.take (i+1)=l.take i++[x]:=by rw [List.take_add_one,h];rfl
theorem zNX {ks:List Bi} {x:Bi} (h:ks.Nodup) (hn:x ∉ ks):(ks++[x]).Nodup:=by
 rw [List.nodup_append];exact ⟨h,by simp,fun a ha b hb e=>by simp at hb;subst hb;subst e;exact hn ha⟩
theorem zUR {x:Bi} (h:BiOk x):BiOk (zGg x):=by
 unfold zGg;split
 ·exact ⟨h.f,h.n⟩
 ·exact h
end Go.Proofs.YtlmdfmnbcndhoaaGreatDoor
