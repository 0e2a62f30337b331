/-
  Lemmas, part 36. Conditions: each theorem's own.
-/
import Derived.Test.YtlmdfmnbcndhoaaGreatDoorRc34
import Derived.Test.YtlmdfmnbcndhoaaGreatDoorRc35
import Derived.Test.YtlmdfmnbcndhoaaGreatDoorRc28
open Go.Value renaming bool→G,int→D,slice→H
open Option renaming none→U,some→Z
open Go.IntKind renaming i64→J
open Bool renaming false→E,true→Q
namespace Go.Proofs.YtlmdfmnbcndhoaaGreatDoor
open Go.RowKit
theorem zMW (a:Lt) (w:World):(Instr.buildSlice 53 1 #[(0,ltV a)]).run Tryz.prog w=.ok (H (Z ⟨w.heap.size,0,U⟩) 1 1) (w.alloc (.cells ([a].flatMap ltC).toArray 76)):=by
 obtain ⟨i0,hi,aT,az,bt⟩:=info_parts zMC;refine run_buildSlice w _ _ 1 _ _ i0 _ Tryz.underlying53 hi aT (by rw [az];omega) (by rw [az];omega) ?_;rw [az]
 kernel_rfl
theorem zWE (i:Int) (o:Bool) (w:World):(Instr.build 76 #[(0,D J 2),(3,D J i),(5,G o)]).run Tryz.prog w=.ok (.agg #[D J 2,D J 0,D J 0,D J i,D J 0,G o]) w:=run_build w _ _ _ (by kernel_rfl)
theorem zKU (g r:Int) (w:World):(Instr.build 76 #[(0,D J 1),(1,D J g),(2,D J r)]).run Tryz.prog w=.ok (.agg #[D J 1,D J g,D J r,D J 0,D J 0,G E]) w:=run_build w _ _ _ (by kernel_rfl)
theorem zKV {w:World} {ops:Array Oper} {rest:List Oper} {o:Oper} {a:Act} {Q':Exit→Act→World→Prop} (hgd:o.guard=U) (s x:Operand)
  (ho:o.op=.call { callee:=.builtin .append,args:=#[s,x],argTypes:=#[53,53] })
  {base:Nat} {A:Option Addr} {n c:Nat} {L:List Lt} (hst:OwnL w base A n c L) (M:List Lt) (m:Nat) (hm:M.length=m) (hok:∀x∈M,LtOk x) (hs:a.eval s=H A n c) (hx:a.eval x=H (Z ⟨w.heap.size,0,U⟩) m m)
  (N:Nat) (hN:n+m=N) (hn:N≤1000000) (hbase:base≤w.heap.size)
  (h:∀A' c' w',OwnL w' base A' N c' (L++M)→w.grownBy w' (blk A)→(∀k,blk A'=Z k→blk A=Z k∨w.heap.size≤k)→wpList Tryz.prog ops Q' rest (a.put o.dst (H A' N c')) w') :
  wpList Tryz.prog ops Q' (o :: rest) a (w.alloc (.cells (M.flatMap ltC).toArray 76)):=by
 have hbl:=(Below.refl w.heap.size w).alloc (Nat.le_refl _) (.cells (M.flatMap ltC).toArray 76);have hO:=OwnL.block (Blk.new w 76 (M.flatMap ltC).toArray) (base:=0) (Nat.zero_le _) hok (by omega);subst hm;refine zWC hgd s x ho (hst.next hbl) hO.lets hs hx N hN (by omega) (Nat.le_trans hbase hbl.size) ?_;intro A' c' w' h1 h2 h3;refine h A' c' w' h1 (zAb (zDK hbl _) h2) fun k hk=>?_
 rcases h3 k hk with e | e
 ·exact .inl e
 ·exact .inr (Nat.le_trans hbl.size e)
theorem SgW.pushed {Y w w':World} {oB:Nat} {K:Int} {A A':Option Addr} {n c N c':Nat} {L L':List Lt} (h:SgW Y w oB K A n c L) (hY:Y.heap.size≤oB) (hown:OwnL w' Y.heap.size A' N c' L') (hg:w.grownBy w' (blk A)) (hl:∀k,blk A'=Z k→blk A=Z k∨w.heap.size≤k) :
  Blk w' oB 55 #[D J K,H A n c]∧SgW Y (w'.setCell ⟨oB,1,U⟩ (H A' N c')) oB K A' N c' L':=by
 have hb:Blk w' oB 55 #[D J K,H A n c]:=h.bk.grown hg (fun e=>h.far oB e.symm rfl);have hf:∀q,blk A'=Z q→q≠oB:=fun q hq=>by
  rcases hl q hq with e | e
  ·exact h.far q e
  ·have:=h.bk.lt;omega
 have hold:Below Y.heap.size Y w':=h.old.trans ((Below.refl _ _).grown hg h.old.size (fun k hk=>(h.own.row.lt k hk).1));refine ⟨hb,⟨⟨hown.row.farSet 1 _ hf,hown.fits,hown.le⟩,hb.set_ 1 _,hf,hold.setCell (p:=⟨oB,1,U⟩) hY _⟩⟩
theorem zQu {α β:Type} (f:α→List β) {l:List α} {i:Nat} {x:α} (h:l[i]? = Z x):(l.take (i+1)).flatMap f=(l.take i).flatMap f++f x:=by
 rw [List.take_add_one,h];simp
theorem zMX {a b:Lt} (ha:LtOk a) (hb:LtOk b):∀x∈[a,b],LtOk x:=by
 intro x hx;simp only [List.mem_cons,List.not_mem_nil,or_false] at hx;rcases hx with rfl | rfl
 ·exact ha
 ·exact hb
set_option maxHeartbeats 12800000 in
set_option maxRecDepth 100000 in
theorem zMg (kk:Nat) (B:Option Addr) (n d:Nat) (l:List Bi) (g:Nat) (M:List Int) (w:World) (hB:Bits w B n l) (hM:OwnI w 0 g (kk+2) M) (hk:kk≤40) (hn:n≤20001)
  (hl:∀x∈l,0≤x.f∧x.f≤(kk:Int)∧0≤x.n∧x.n≤999999999) (hMb:∀j,j < kk+2→∃v:Nat,M[j]? = Z (v:Int)∧v≤100000) :
  Calls Tryz.prog 81 #[D J (kk:Int),H B n d,H (Z ⟨g,0,U⟩) (kk+2) (kk+2)] w (zHX w (kk:Int) (zAK M l)):=by
 have aa:Below w.heap.size w (w.alloc (.cells #[D J 0,H U 0 0] 55)):=(Below.refl _ _).alloc (Nat.le_refl _) _;have hk0:Blk (w.alloc (.cells #[D J 0,H U 0 0] 55)) w.heap.size 55 #[D J 0,H U 0 0]:=Blk.new _ _ _;have bj:=qH hB.len;have HB:=qH hB;have HM:=qH hM;have HL:=qH hl;have pF:=qH hMb;obtain ⟨K,hK⟩:∃K:Int,(kk:Int)=K:=⟨_,rfl⟩
 rw [hK];clear hl hB hM hMb hK;go_enter Tryz.func81,Tryz.ntmps81;go_upto_region 1 with fail
 generalize w.alloc (.cells #[D J 0,H U 0 0] 55)=Y at aa hk0 ⊢;have bF:SgW Y (Y.alloc (.cells #[D J K,H U 0 0] 55)) Y.heap.size K U 0 0 (zAK M (l.take 0)):=⟨OwnL.nil _ _,Blk.new _ _ _,fun q hq=>(by cases hq),(Below.refl _ _).alloc (Nat.le_refl _) _⟩;go_upto_region 2 with fail
 generalize hZ:Y.alloc (.cells #[D J K,H U 0 0] 55)=ZU at bF ⊢;clear hZ;obtain ⟨oB,gC⟩:∃a,Y.heap.size=a:=⟨_,rfl⟩
 have mn:Y.heap.size≤oB:=by omega
 rw [gC];have bF:SgW Y ZU oB K U 0 0 (zAK M (l.take 0)):=by rw [←gC];exact bF
 clear gC;go_wp2_with fail
 go_loopw [16] (fun v16 wv=>∃(i m:Nat) (X:World) (A1:Option Addr) (c1:Nat),X=wv∧i≤n∧m≤2*i∧v16=D J i∧SgW Y X oB K A1 m c1 (zAK M (l.take i))) (fun v16 _=>n-(intOf v16).toNat)
 case atStart=>exact ⟨0,0,_,U,0,rfl,by omega,by omega,rfl,bF⟩
 case round =>
  obtain ⟨i,m,X,A1,c1,hX,hi,hm,rfl,hW⟩:=hrel;subst hX;clear bF;by_cases hlt:i < n
  ·have j0:(0:Int)≤(i:Int):=by omega
   have j1:(i:Int) < (n:Int):=by omega
   have hold:=zAa aa hW.old aa.size;have jD:=HB.out.below hold;have tM:OwnI X 0 g (kk+2) M:=HM.out.below hold HM.out.lt;have hli:l[i]? = Z (ba l i):=zCK (by rw [bj.out];exact hlt);have hbd:=HL.out _ (List.mem_of_getElem? hli);obtain ⟨gb,ob,rfl,hgb,⟨x0,x1,x2⟩,hok⟩:=jD.at_ hlt;have hbl:=(Below.refl X.heap.size X).alloc (Nat.le_refl _) (.cells #[D J (ba l i).f,D J (ba l i).n,G (ba l i).b] 174);have aL:Blk (X.alloc (.cells #[D J (ba l i).f,D J (ba l i).n,G (ba l i).b] 174)) X.heap.size 174 #[D J (ba l i).f,D J (ba l i).n,G (ba l i).b]:=Blk.new _ _ _;have db:=hW.next hbl;have eD:=tM.below hbl tM.lt;have cw:=qH (zQu (zGj M) hli);clear hW hbl jD tM hold hok hli;go_upto_if 22 with fail
   clear x0 x1 x2;generalize X.alloc (.cells #[D J (ba l i).f,D J (ba l i).n,G (ba l i).b] 174)=X1 at aL db eD ⊢;generalize X.heap.size=a9 at aL ⊢;obtain ⟨⟨ff,nn,bb⟩,hbe⟩:∃b,ba l i=b:=⟨_,rfl⟩
   rw [hbe] at aL cw hbd ⊢;simp only at aL hbd ⊢;clear hbe;by_cases hf0:ff=0
   ·subst hf0;obtain ⟨h0,h1,h2⟩:=cQ3 aL;have o1:X1.cell? ⟨oB,1,U⟩=Z (H A1 m c1):=(db.bk.cell 1).trans rfl;have hbs:=fun w=>zMW ⟨2,0,0,nn,0,bb⟩ w
    simp only [ltV] at hbs;have ny:∀x∈[(⟨2,0,0,nn,0,bb⟩:Lt)],LtOk x:=by
     intro x hx;rw [List.mem_singleton.1 hx];exact ⟨⟨by simp only;omega,by simp only;omega⟩,⟨by simp only;omega,by simp only;omega⟩,⟨by simp only;omega,by simp only;omega⟩,⟨by simp only;omega,by simp only;omega⟩,⟨by simp only;omega,by simp only;omega⟩⟩
    have De:=qH ny;have aE:Y.heap.size≤X1.heap.size:=db.old.size;have nA:m+1≤1000000:=by omega
    have mI:m+1≤2*(i+1):=by omega
    clear ny aL eD;go_upto_region 12 with (at_builtin;refine zEw ?_)
    refine qH ?_;refine zKV (base:=Y.heap.size) (A:=A1) (n:=m) (c:=c1) (L:=zAK M (l.take i)) rfl (.tmp 24) (.tmp 30) ?_ ?_ [⟨2,0,0,nn,0,bb⟩] 1 rfl De.out ?_ ?_ (m+1) rfl nA aE ?_
    ·rfl
    ·exact db.own
    ·rfl
    ·rfl
    intro A2 c2 w9 cv aQ hl9';obtain ⟨dq,ct⟩:=db.pushed mn cv aQ hl9';have p1:w9.cell? ⟨oB,1,U⟩=Z (H A1 m c1):=(dq.cell 1).trans rfl;have z1:=dq.frozen 1;have bW:SgW Y (w9.setCell ⟨oB,1,U⟩ (H A2 (m+1) c2)) oB K A2 (m+1) c2 (zAK M (l.take (i+1))):=by
     unfold zAK;rw [cw.out];exact ct
    have fm:=qH bW;clear db cv aQ hl9' ct bW dq h0 h1 h2 o1 hbs;go_wp2_with fail
    go_roundw
    case rel=>exact ⟨i+1,m+1,_,A2,c2,rfl,by omega,mI,by go_num,fm.out⟩
    case measure=>simp [intOf];omega
   ·obtain ⟨q,rfl⟩:∃q:Nat,ff=(q:Int):=⟨ff.toNat,by omega⟩
    obtain ⟨p,hp⟩:∃p:Nat,q=p+1:=⟨q-1,by omega⟩
    have k0:((q:Int)==0)=E:=by simp;omega
    have hqp:(q:Int)-1=(p:Int):=by omega
    have hpk:p < kk+2:=by omega
    have hqk:q < kk+2:=by omega
    obtain ⟨v1,lV,sI⟩:=pF.out p hpk;obtain ⟨v2,ox,sH⟩:=pF.out q hqk;obtain ⟨r2,gA⟩:∃r:Int,(v2:Int)-nn=r:=⟨_,rfl⟩
    obtain ⟨r3,oy⟩:∃r:Int,r2+1=r:=⟨_,rfl⟩
    have fJ:=qH (show zGj M ⟨(q:Int),nn,bb⟩=if bb then [⟨1,(p:Int),(v1:Int)+nn,0,0,E⟩,⟨1,(q:Int),r3,0,0,E⟩] else [⟨1,(q:Int),r3,0,0,E⟩,⟨1,(p:Int),(v1:Int)+nn,0,0,E⟩] by
     unfold zGj ia
     simp only
     rw [if_neg (by omega),hqp,show ((p:Int)).toNat=p by omega,show ((q:Int)).toNat=q by omega,lV,ox]
     simp only [Option.getD_some,gA,oy])
    obtain ⟨h0,h1⟩:=cQ2 aL;have e1:=eD.cell lV;have mj:=(Below.refl X1.heap.size X1).alloc (Nat.le_refl _) (.cells #[D J 0,D J 0,D J 0,D J 0,D J 0,G E] 76);have wt:=aL.below mj aL.lt;obtain ⟨aT,az⟩:=cQ2 wt;have bt:=(eD.below mj eD.lt).cell lV;have i4:(0:Int)≤(p:Int):=by omega
    have i6:(p:Int) < (kk:Int)+2:=by omega
    have i7:(0:Int)≤(q:Int):=by omega
    have i9:(q:Int) < (kk:Int)+2:=by omega
    have nz:LtOk ⟨1,(p:Int),(v1:Int)+nn,0,0,E⟩:=⟨⟨by simp only;omega,by simp only;omega⟩,⟨by simp only;omega,by simp only;omega⟩,⟨by simp only;omega,by simp only;omega⟩,⟨by simp only;omega,by simp only;omega⟩,⟨by simp only;omega,by simp only;omega⟩⟩;have nx:LtOk ⟨1,(q:Int),r3,0,0,E⟩:=⟨⟨by simp only;omega,by simp only;omega⟩,⟨by simp only;omega,by simp only;omega⟩,⟨by simp only;omega,by simp only;omega⟩,⟨by simp only;omega,by simp only;omega⟩,⟨by simp only;omega,by simp only;omega⟩⟩;have nA:m+2≤1000000:=by omega
    have mI:m+2≤2*(i+1):=by omega
    have yk:=qH mI;have yj:=qH nA;have oC:i+1≤n:=by omega
    have uw:=qH oC;have w1:IntKind.i64.wrap ((q:Int)-1)=(p:Int):=by rw [hqp];exact IntWalk.i64_in _ (by omega)
    have w2:IntKind.i64.wrap ((v1:Int)+nn)=(v1:Int)+nn:=IntWalk.i64_in _ (by omega);have w3:IntKind.i64.wrap ((v2:Int)-nn)=r2:=by rw [gA];exact IntWalk.i64_in _ (by omega)
    have w4:IntKind.i64.wrap (r2+1)=r3:=by rw [oy];exact IntWalk.i64_in _ (by omega)
    clear gA oy;have yg:=qH nz;have ye:=qH nx;have bL:=(Below.refl X1.heap.size X1).alloc (Nat.le_refl _) (.cells #[D J 1,D J (p:Int),D J ((v1:Int)+nn),D J 0,D J 0,G E] 76);have kL:Blk (X1.alloc (.cells #[D J 1,D J (p:Int),D J ((v1:Int)+nn),D J 0,D J 0,G E] 76)) X1.heap.size 76 #[D J 1,D J (p:Int),D J ((v1:Int)+nn),D J 0,D J 0,G E]:=Blk.new _ _ _;have bn:=aL.below bL aL.lt;have bp:=db.next bL;have lA:=eD.below bL eD.lt;have uY:=qH ox;clear hp hf0 lV ox nz nx mj wt aL db eD bL hbd;go_upto_region 7 with fail
    go_region
    clear h0 h1 e1 aT az bt w1 w2 i4 i6 hqp hpk hqk sI sH hlt mI nA oC;generalize X1.alloc (.cells #[D J 1,D J (p:Int),D J ((v1:Int)+nn),D J 0,D J 0,G E] 76)=X2 at kL bn bp lA ⊢;generalize X1.heap.size=bP at kL ⊢;have kL:=kL.drew;have bn:=bn.drew;have bp:=bp.next (Below.refl _ _).drew;have lA:=lA.drew;generalize X2.drew=X3 at kL bn bp lA ⊢;obtain ⟨h0,h1⟩:=cQ2 bn;have e1:=lA.cell uY.out;have mj:=(Below.refl X3.heap.size X3).alloc (Nat.le_refl _) (.cells #[D J 0,D J 0,D J 0,D J 0,D J 0,G E] 76);have wt:=bn.below mj bn.lt;obtain ⟨aT,az⟩:=cQ2 wt;have bt:=(lA.below mj lA.lt).cell uY.out;have yu:=qH kL;have fK:=qH bn;have uj:=qH bp;have jT:=qH lA;clear kL bn bp lA mj wt aT az bt;go_upto_region 8 with fail
    have KP:=qH (show ∀wx,Below X3.heap.size X3 wx→(Below X3.heap.size X3 wx∧wx.cell? ⟨a9,0,U⟩=Z (D J (q:Int))∧wx.cell? ⟨a9,1,U⟩=Z (D J nn)∧wx.cell? ⟨g,q,U⟩=Z (D J (v2:Int))) from
     fun wx h=>⟨h,((fK.out.below h fK.out.lt).cell 0).trans rfl,((fK.out.below h fK.out.lt).cell 1).trans rfl,(jT.out.below h jT.out.lt).cell uY.out⟩)
    first
     | go_region_held3 (fun wx=>Below X3.heap.size X3 wx∧wx.cell? ⟨a9,0,U⟩=Z (D J (q:Int))∧wx.cell? ⟨a9,1,U⟩=Z (D J nn)∧wx.cell? ⟨g,q,U⟩=Z (D J (v2:Int))) (first | assumption | exact KP.out _ (Below.refl _ _).drew | exact KP.out _ (zAQ (Below.refl _ _).drew _)) (first | fail)
     | fail
    clear h0 h1 e1 w3 w4 KP;have bR:=(Below.refl X3.heap.size X3).alloc (Nat.le_refl _) (.cells #[D J 1,D J (q:Int),D J r3,D J 0,D J 0,G E] 76);have kR:Blk (X3.alloc (.cells #[D J 1,D J (q:Int),D J r3,D J 0,D J 0,G E] 76)) X3.heap.size 76 #[D J 1,D J (q:Int),D J r3,D J 0,D J 0,G E]:=Blk.new _ _ _;have gz:=yu.out.below bR yu.out.lt;have cg:=fK.out.below bR fK.out.lt;have bq:=uj.out.next bR;generalize X3.alloc (.cells #[D J 1,D J (q:Int),D J r3,D J 0,D J 0,G E] 76)=X4 at kR gz cg bq ⊢;generalize X3.heap.size=a11 at kR ⊢;have kR:=kR.drew;have gz:=gz.drew;have cg:=cg.drew;have bq:=bq.next (Below.refl _ _).drew;generalize X4.drew=X5 at kR gz cg bq ⊢;have h2:X5.cell? ⟨a9,2,U⟩=Z (G bb):=(cg.cell 2).trans rfl;have o1:X5.cell? ⟨oB,1,U⟩=Z (H A1 m c1):=(bq.bk.cell 1).trans rfl;obtain ⟨y0,y1,y2,y3,y4,y5⟩:=cQ6 gz;obtain ⟨u0,u1,u2,u3,u4,u5⟩:=cQ6 kR;have aE:Y.heap.size≤X5.heap.size:=bq.old.size;clear kR gz cg
    cases bb with
    | true =>
     have hbs:=fun w=>zJm ⟨1,(p:Int),(v1:Int)+nn,0,0,E⟩ ⟨1,(q:Int),r3,0,0,E⟩ w
     simp only [ltV] at hbs;go_upto_region 12 with (at_builtin;refine zEw ?_)
     refine qH ?_;refine zKV (base:=Y.heap.size) (A:=A1) (n:=m) (c:=c1) (L:=zAK M (l.take i)) rfl (.tmp 61) (.tmp 64) ?_ ?_ [⟨1,(p:Int),(v1:Int)+nn,0,0,E⟩,⟨1,(q:Int),r3,0,0,E⟩] 2 rfl (zMX yg.out ye.out) ?_ ?_ (m+2) rfl yj.out aE ?_
     ·rfl
     ·exact bq.own
     ·rfl
     ·rfl
     intro A2 c2 w9 cv aQ hl9';obtain ⟨dq,ct⟩:=bq.pushed mn cv aQ hl9';have p1:w9.cell? ⟨oB,1,U⟩=Z (H A1 m c1):=(dq.cell 1).trans rfl;have z1:=dq.frozen 1;have bW:SgW Y (w9.setCell ⟨oB,1,U⟩ (H A2 (m+2) c2)) oB K A2 (m+2) c2 (zAK M (l.take (i+1))):=by
      unfold zAK;rw [cw.out,fJ.out];exact ct
     have fm:=qH bW;clear bq cv aQ hl9' ct bW dq h2 o1 hbs y0 u0 y1 u1 y2 u2 y3 u3 y4 u4 y5 u5;go_wp2_with fail
     go_roundw
     case rel=>exact ⟨i+1,m+2,_,A2,c2,rfl,uw.out,yk.out,by go_num,fm.out⟩
     case measure=>simp [intOf];omega
    | false =>
     have hbs:=fun w=>zJm ⟨1,(q:Int),r3,0,0,E⟩ ⟨1,(p:Int),(v1:Int)+nn,0,0,E⟩ w
     simp only [ltV] at hbs;go_upto_region 12 with (at_builtin;refine zEw ?_)
     refine qH ?_;refine zKV (base:=Y.heap.size) (A:=A1) (n:=m) (c:=c1) (L:=zAK M (l.take i)) rfl (.tmp 68) (.tmp 71) ?_ ?_ [⟨1,(q:Int),r3,0,0,E⟩,⟨1,(p:Int),(v1:Int)+nn,0,0,E⟩] 2 rfl (zMX ye.out yg.out) ?_ ?_ (m+2) rfl yj.out aE ?_
     ·rfl
     ·exact bq.own
     ·rfl
     ·rfl
     intro A2 c2 w9 cv aQ hl9';obtain ⟨dq,ct⟩:=bq.pushed mn cv aQ hl9';have p1:w9.cell? ⟨oB,1,U⟩=Z (H A1 m c1):=(dq.cell 1).trans rfl;have z1:=dq.frozen 1;have bW:SgW Y (w9.setCell ⟨oB,1,U⟩ (H A2 (m+2) c2)) oB K A2 (m+2) c2 (zAK M (l.take (i+1))):=by
      unfold zAK;rw [cw.out,fJ.out];exact ct
     have fm:=qH bW;clear bq cv aQ hl9' ct bW dq h2 o1 hbs y0 u0 y1 u1 y2 u2 y3 u3 y4 u4 y5 u5;go_wp2_with fail
     go_roundw
     case rel=>exact ⟨i+1,m+2,_,A2,c2,rfl,uw.out,yk.out,by go_num,fm.out⟩
     case measure=>simp [intOf];omega
  ·have j1:¬(i:Int) < (n:Int):=by omega
   have hin:l.take i=l:=by rw [List.take_of_length_le (by rw [bj.out];omega)]
   rw [hin] at hW;have pg:w.heap.size < Y.heap.size:=hk0.lt;have dh:=hk0.below hW.old pg;have e0:X.cell? ⟨oB,0,U⟩=Z (D J K):=(hW.bk.cell 0).trans rfl;have e1:X.cell? ⟨oB,1,U⟩=Z (H A1 m c1):=(hW.bk.cell 1).trans rfl;obtain ⟨r0,r1⟩:=cQ2 dh;have z0:=dh.frozen 0;have z1:=dh.frozen 1;have pD:=qH dh;have HW:=qH hW;have jq:=aa.size;clear hin hlt hW dh;go_wp2_with fail
   have hS:Blk ((X.setCell ⟨w.heap.size,0,U⟩ (D J K)).setCell ⟨w.heap.size,1,U⟩ (H A1 m c1)) w.heap.size 55 #[D J K,H A1 m c1]:=(pD.out.set_ 0 _).set_ 1 _;have gS:=zAg (zAg (World.grownBy.refl X (Z w.heap.size)) (p:=⟨w.heap.size,0,U⟩) (.inl rfl) (D J K)) (p:=⟨w.heap.size,1,U⟩) (.inl rfl) (H A1 m c1);have dT:=((zAa aa HW.out.old jq).setCell (p:=⟨w.heap.size,0,U⟩) (Nat.le_refl _) (D J K)).setCell (p:=⟨w.heap.size,1,U⟩) (Nat.le_refl _) (H A1 m c1);have pk:OwnL ((X.setCell ⟨w.heap.size,0,U⟩ (D J K)).setCell ⟨w.heap.size,1,U⟩ (H A1 m c1)) w.heap.size A1 m c1 (zAK M l):=by
    refine ⟨(HW.out.own.row.kept gS ?_).mono jq,HW.out.own.fits,HW.out.own.le⟩
    cases hb:blk A1 with
    | none=>exact .inl rfl
    | some q=>exact .inr (by have:=(HW.out.own.row.lt q hb).1;simp;omega)
   (try simp only [Exit.inBlock,Exit.then])
   refine zAn rfl rfl hS Tryz.underlying55 rfl (by kernel_rfl) rfl ?_;exact ⟨A1,m,c1,rfl,pk,dT⟩
open Go.Maps (Keyed)
abbrev bV (b:Bi):Value:=.agg #[D J b.f,D J b.n,G b.b]
theorem zTE:174 < Tryz.prog.types.size:=of_decide_eq_true (by kernel_rfl)
theorem zWF:Tryz.prog.keyTypeAt 2 174=Q:=by kernel_rfl
theorem zMY:Keyed Tryz.prog 174 :=
 Keyed.of_law (deep_law_laid zUS (m:=2) (by omega) zTE zWF (by rw [Tryz.underlying174]))
theorem zVc:Tryz.prog.keyType 174=Q:=by kernel_rfl
theorem zMZ:Tryz.prog.cellsOf 174=3:=by kernel_rfl
theorem zIp {P : Program} {m : Nat} {t : TypeId} {fs : Array Field} {cs : List Value} (hu : P.underlying t = Z (.struct fs)) (h1 : cs.length = P.cellsOf t) (h2 : fs.all (·.name != "_") = Q) :
  P.keyLits (m+1) t cs=(fs.toList.mapM fun f=>P.keyLits m f.type ((cs.drop f.offset).take (P.cellsOf f.type))).map List.flatten:=by
 simp only [Program.keyLits,hu];rw [if_pos ⟨h1,h2⟩]
theorem zVd (m:Nat) {x:Bi} (h:BiOk x):Tryz.prog.keyLits (m+2) 174 [.int .i64 x.f,.int .i64 x.n,.bool x.b]=Z [.int .i64 x.f,.int .i64 x.n,.bool x.b]:=by
 have hu:=Tryz.underlying174;have c3:Tryz.prog.cellsOf 3=1:=by kernel_rfl
 have c4:Tryz.prog.cellsOf 4=1:=by kernel_rfl
 have k1:∀y,I64 y→Tryz.prog.keyLits (m+1) 3 [.int .i64 y]=Z [.int .i64 y]:=fun y hy=>by
  have w1:(Lit.int .i64 y).wf=Q:=Go.WalkArith.wf_i64 hy;simp only [Program.keyLits,Tryz.underlying3];rw [if_pos ⟨trivial,w1⟩]
 have k2:∀b:Bool,Tryz.prog.keyLits (m+1) 4 [.bool b]=Z [.bool b]:=fun b=>by
  simp only [Program.keyLits,Tryz.underlying4]
 have k3:=k1 x.f h.f;have k4:=k1 x.n h.n;have k5:=k2 x.b;rw [zIp hu (by rw [zMZ];rfl) (by kernel_rfl)];simp only [List.mapM_cons,List.mapM_nil,c3,c4,List.drop_zero,List.take_succ_cons,List.take_zero,List.drop_succ_cons,k3,k4,k5];rfl
theorem zTF {x:Bi} (h:BiOk x):∃l,keyOf Tryz.prog 174 (bV x)=Z l:=by
 obtain ⟨m,hm⟩:∃m,Tryz.prog.types.size=m+1:=⟨Tryz.prog.types.size-1,by have:=zTE;omega⟩
 have hl:=zVd m h;have hf:(bV x).formed Tryz.prog 174=Q:=by
  simp [Value.formed,zMZ,Tryz.underlying174]
 have hc:(bV x).cells.toList=[D J x.f,D J x.n,G x.b]:=rfl;unfold keyOf;rw [Tryz.underlying174];simp only;rw [zVc,hf,hc,hm,hl];exact ⟨_,rfl⟩
theorem zTG {x y:Bi} (h:bV x=bV y):x=y:=by
 obtain ⟨a,b,c⟩:=x;obtain ⟨a',b',c'⟩:=y;simp [bV] at h;simp [h]
structure Seen (w:World) (b:Nat) (ks:List Bi):Prop where
 map:KMap w Tryz.prog 174 b (ks.map fun k=>(bV k,G Q))
section
variable {w w':World} {b:Nat} {ks:List Bi}
theorem Seen.look (h:Seen w b ks) {x:Bi} (hx:BiOk x):(Instr.lookup 176 (.map (Z b)) (bV x) E).run Tryz.prog w=.ok (G (decide (x∈ks))) w:=by
 obtain ⟨l,hl⟩:=zTF hx;rcases h.map.look zMY Tryz.underlying176 (zSj w) hl with ⟨h1,h2⟩ | ⟨j,v,h1,h2⟩
 ·have hn:x ∉ ks:=fun hm=>h2 (bV x,G Q) (List.mem_map.2 ⟨x,hm,rfl⟩) rfl
  rw [h1,decide_eq_false hn]
 ·rw [List.getElem?_map] at h2
  cases hk:ks[j]? with
  | none=>rw [hk] at h2;cases h2
  | some y =>
   rw [hk] at h2;simp only [Option.map_some,Option.some.injEq,Prod.mk.injEq] at h2;obtain ⟨e1,rfl⟩:=h2;have:=zTG e1;subst this;rw [h1,decide_eq_true (List.mem_of_getElem? hk)]
theorem Seen.push (h:Seen w b ks) {x:Bi} (hx:BiOk x) (hn:x ∉ ks) :
  ∃w',(Instr.mapUpdate 176 (.map (Z b)) (bV x) (G Q)).run Tryz.prog w=.ok () w'∧Seen w' b (ks++[x])∧w.grownBy w' (Z b):=by
 obtain ⟨l,hl⟩:=zTF hx
 obtain ⟨w',h1,h2,h3⟩:=h.map.push zMY Tryz.underlying176 (val:=G Q) hl (fun p hp e=>by
  obtain ⟨y,hy,rfl⟩:=List.mem_map.1 hp
  exact hn (by rw [←zTG e];exact hy))
 exact ⟨w',h1,⟨by rw [List.map_append];exact h2⟩,h3⟩
theorem Seen.lt (h:Seen w b ks):b < w.heap.size:=h.map.lt
theorem Seen.made (w:World):Seen (w.alloc (.map #[] 0)) w.heap.size []:=⟨KMap.made w _ _⟩
theorem Seen.below {B:Nat} (h:Seen w b ks) (hb:Below B w w') (hB:b < B):Seen w' b ks:=⟨h.map.below hb hB⟩
theorem Seen.setCell (h:Seen w b ks) {p:Addr} (hp:b≠p.block) (u:Value):Seen (w.setCell p u) b ks:=⟨h.map.setCell hp u⟩
end
def zFG (w0:World) (k:Nat) (l:List Bi) (e:Ending) (w':World):Prop :=
 (zBJ l=Q∧∃g,e=.returned (.tuple #[H (Z ⟨g,0,U⟩) (k+2) (k+2),D J ((zCN l / 2:Nat):Int),G Q])∧OwnI w' w0.heap.size g (k+2) (zBQ k l)∧Below w0.heap.size w0 w') ∨
 (zBJ l=E∧e=.returned (.tuple #[H U 0 0,D J 0,G E])∧Below w0.heap.size w0 w')
theorem zSA {l:List Bi} {i:Nat} {x:Bi} (hx:l[i]? = Z x) (h:zEX x∈(l.take i).map zEX):zBJ l=E:=by
 unfold zBJ;rw [decide_eq_false,Bool.false_and];intro hn;obtain ⟨j,hj⟩:=List.getElem?_of_mem h;rw [List.getElem?_map,List.getElem?_take] at hj;split at hj
 ·rename_i hji
  cases hq:l[j]? with
  | none=>rw [hq] at hj;cases hj
  | some y =>
   rw [hq] at hj;simp only [Option.map_some,Option.some.injEq] at hj;have hlt:=(List.getElem?_eq_some_iff.1 hx).1;have:=(List.getElem?_inj (l:=l.map zEX) (i:=j) (j:=i) (by rw [List.length_map];omega) hn).1 (by rw [List.getElem?_map,List.getElem?_map,hq,hx];simp [hj]);omega
 ·cases hj
theorem zQv {l:List Bi} {x:Bi} (hx:x∈l) (h:zGH l x=Q):zBJ l=E:=by
 unfold zBJ;have:(l.all fun b=>!zGH l b)=E:=by
  rw [List.all_eq_false];exact ⟨x,hx,by rw [h];simp⟩
 rw [this,Bool.and_false]
theorem zSB {l:List Bi} (h1:(l.map zEX).Nodup) (h2:∀i,i < l.length→zGH l (ba l i)=E):zBJ l=Q:=by
 unfold zBJ;rw [decide_eq_true h1,Bool.true_and,List.all_eq_true];intro x hx;obtain ⟨i,hi⟩:=List.getElem?_of_mem hx;have:=h2 i (List.getElem?_eq_some_iff.1 hi).1;rw [zWz hi] at this;rw [this];rfl
theorem zKW {l:List Bi} {i:Nat} {x:Bi} (h:l[i]? = Z x):l.take (i+1)=l.take i++[x]:=by rw [List.take_add_one,h];rfl
theorem zOg {ks:List Bi} {x:Bi} (h:ks.Nodup) (hn:x ∉ ks):(ks++[x]).Nodup:=by
 rw [List.nodup_append];exact ⟨h,by simp,fun a ha b hb e=>by simp at hb;subst hb;subst e;exact hn ha⟩
theorem zVe {x:Bi} (h:BiOk x):BiOk (zEX x):=by
 unfold zEX;split
 ·exact ⟨h.f,h.n⟩
 ·exact h
end Go.Proofs.YtlmdfmnbcndhoaaGreatDoor
