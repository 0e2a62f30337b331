/-
  Lemmas, part 40. Conditions: each theorem's own.
-/
import Derived.Test.YtlmdfmnbcndhoaaGreatDoorRq39
import Derived.Test.YtlmdfmnbcndhoaaGreatDoorRq07
import Derived.Test.YtlmdfmnbcndhoaaGreatDoorRq02
import Derived.Test.YtlmdfmnbcndhoaaGreatDoorRq34
import Derived.Test.YtlmdfmnbcndhoaaGreatDoorRq03
import Derived.Test.YtlmdfmnbcndhoaaGreatDoorRq13
import Derived.Deep.RegionHeld3
import Derived.Test.YtlmdfmnbcndhoaaGreatDoorRq04
open Go.Value renaming bool→G,int→D,slice→H,string→W
open Go.IntKind renaming i64→J
open Option renaming none→U,some→Z
open Bool renaming false→E,true→Q
namespace Go.Proofs.YtlmdfmnbcndhoaaGreatDoor
open Go.RowKit
theorem zSH {w:World} {base:Nat} {K:Int} (hb:base≤w.heap.size):CodesOwn (w.alloc (.cells #[D J K,H U 0 0] 55)) base K (Z ⟨w.heap.size,0,U⟩) 1 1 [⟨[],U,0,0⟩]:=by
 refine ⟨⟨rfl,Nat.le_refl _,fun e=>(by cases e),fun ad ha=>?_⟩,fun e he=>?_,fun e he=>by rw [List.mem_singleton.1 he];exact Nat.le_refl _⟩
 ·injection ha with ha
  subst ha;have hk:=Blk.new w 55 #[D J K,H U 0 0];refine ⟨rfl,hb,by simp,fun j u hu=>?_,fun j hj=>⟨?_,hk.frozen _⟩⟩
  ·rw [Nat.zero_add,hk.cell];simpa [zTC] using hu
  ·rw [Nat.zero_add,hk.cell];rcases (show j=0∨j=1 by omega) with rfl | rfl<;>rfl
 ·rw [List.mem_singleton.1 he];exact ⟨Lets.nil _ _,fun k hk=>by cases hk⟩
theorem zSI {cr N:Nat} (h:cr≤12) (hN:2 ^ cr=N):wrap64 ((2:Int) ^ cr)=(N:Int)∧IntKind.i64.wrap ((2:Int) ^ cr)=(N:Int)∧IntKind.i64.wrap (1*(2:Int) ^ cr)=(N:Int)∧wrap64 (1*(2:Int) ^ cr)=(N:Int):=by
 have ik:(2:Int) ^ cr=(N:Int):=by rw [←hN];simp
 have hN4:N≤4096:=by rw [←hN];exact Nat.le_trans (Nat.pow_le_pow_right (by omega) h) (by decide)
 have h1:IntKind.i64.wrap (N:Int)=(N:Int):=IntWalk.i64_in _ (by omega);have h2:wrap64 (N:Int)=(N:Int):=by unfold wrap64;omega
 rw [Int.one_mul,ik];exact ⟨h2,h1,h1,h2⟩
theorem zSJ {L:List Fg} {re lo:Int} {S:List UInt8} (h:zAS L re lo S=0):L.length≤40∧S.length≤8000:=⟨(zCz.1 (zCe h).2).1,(zCe h).1⟩
theorem zQQ {K:Int} {B:Option Addr} {n d:Nat} {L M:List Lt} {cr nu:Nat} (h:zCS cr nu L=M) (w:World) (hB:Lets w B n L) (hn:n≤1000000) (hcr:cr≤12) (hnu:nu < 4096) (hid:∀i,i < n→isC (la L i)=Q→1≤(la L i).id∧(la L i).id≤cr) :
  Calls Tryz.prog 82 #[.agg #[D J K,H B n d],D J (cr:Int),D J (nu:Int)] w (zMo w K M):=by
 subst h;exact zKV K B n d L cr nu w hB hn hcr hnu hid
set_option maxHeartbeats 12800000 in
set_option maxRecDepth 100000 in
theorem zFM (F:Fm) (S:List UInt8) (w:World) (hA:Fgs w F.A F.n F.L) (hc:F.n≤F.c) (ht:Tabs w) :
  Calls Tryz.prog 37 #[frV F.A F.n F.c F.re F.lo,W (bA S)] w (zSE w (F.n:Int) (rqR F.L F.re F.lo S).1 (rqR F.L F.re F.lo S).2):=by
 have oy:F.L.length=F.n:=hA.len;have aa:Below w.heap.size w (w.alloc (.cells #[H F.A F.n F.c,D J F.re,D J F.lo] 24)):=(Below.refl _ _).alloc (Nat.le_refl _) _;have hk0:Blk (w.alloc (.cells #[H F.A F.n F.c,D J F.re,D J F.lo] 24)) w.heap.size 24 #[H F.A F.n F.c,D J F.re,D J F.lo]:=Blk.new _ _ _;have HA:=qH hA;have HT:=qH ht;have cU:=qH oy;obtain ⟨ZT,hE⟩:∃ZT,zAS F.L F.re F.lo S=ZT:=⟨_,rfl⟩
 have hcs:=zEV F.L F.re F.lo S;rw [hE] at hcs;have jv:=qH (fun wx (hx:Fgs wx F.A F.n F.L)=>zDv F.A F.n F.c F.L F.re F.lo S wx hx hc);simp only [hE] at jv;have HE:=qH hE;obtain ⟨⟨TC,TE⟩,tE⟩:∃x,rqR F.L F.re F.lo S=x:=⟨_,rfl⟩
 rw [tE];simp only;have eM:=qH (fun (Cs:List (List Lt)) (er:Int) (hq:rqR F.L F.re F.lo S=(Cs,er)) (e:Ending) (wx:World) (h:zSE w (F.n:Int) Cs er e wx)=>(show zSE w (F.n:Int) TC TE e wx by rw [tE] at hq;injection hq with h1 h2;subst h1;subst h2;exact h));have HHC:=qH hc;clear hA ht hE tE oy hc;go_enter Tryz.func37,Tryz.ntmps37;go_wp2_with fail
 generalize w.alloc (.cells #[H F.A F.n F.c,D J F.re,D J F.lo] 24)=Y at aa hk0 ⊢;refine (jv.out Y (HA.out.below aa)).mono ?_;rintro e Y2 ⟨rfl,ab⟩;have aC:=hk0.below ab hk0.lt;have ac:=zAa aa ab aa.size;clear hk0 aa ab jv;by_cases h0:ZT=0
 ·subst h0;obtain ⟨lz,hS8⟩:=zSJ HE.out;have nT:F.n≤40:=by rw [←cU.out];exact lz
  have yr:=qH (show ¬(zAS F.L F.re F.lo S≠0) from fun h=>h HE.out);obtain ⟨v0,v1,v2⟩:=cQ3 aC;have n0:=zAL S zIq;have hwz:w.heap.size≤Y2.heap.size:=ac.size;have hwr:w.heap.size < Y2.heap.size:=aC.lt;clear hcs lz;by_cases hba:S=zIq
  ·rw [show (S==zIq)=Q from by simpa using hba] at n0;have HF:=qH (eM.out [[]] 0 (by unfold rqR;rw [if_neg yr.out,if_pos hba]) _ _ ⟨Z ⟨Y2.heap.size,0,U⟩,1,1,[⟨[],U,0,0⟩],rfl,rfl,by omega,zSH (K:=(F.n:Int)) hwz,ac.alloc ac.size _⟩);unfold zIq at n0;clear hba aC ac;go_wp2_with fail
   go_ret2;exact HF.out
  ·rw [show (S==zIq)=E from by simpa using hba] at n0;unfold zIq at n0;have Cc:=qH hba;have hbl:=(Below.refl Y2.heap.size Y2).alloc (Nat.le_refl _) (.cells (rdC F.A F.n F.c F.re F.lo U 0 0 E E) 123);have ah:=zAa ac hbl ac.size
   have hrx:RX (Y2.alloc (.cells (rdC F.A F.n F.c F.re F.lo U 0 0 E E) 123)) Y2.heap.size F ⟨[],E,E⟩ :=
    ⟨⟨U,0,0,Blk.new _ _ _,Els.nil _ _,Nat.le_refl _,fun k hk=>by cases hk⟩,HA.out.below ah,fun h0 k hk=>by
     obtain ⟨g,o,e,hg,_⟩:=HA.out.1.2.2 h0
     rw [e] at hk
     injection hk with hk
     have eD:g=k:=hk
     omega⟩
   have Ag:=aC.below hbl aC.lt;clear hba aC ac hbl;go_upto_region 8 with fail
   clear v0 v1 v2 n0;generalize Y2.alloc (.cells (rdC F.A F.n F.c F.re F.lo U 0 0 E E) 123)=ZU at ah hrx Ag ⊢;generalize Y2.heap.size=rb at hrx hwz hwr ⊢;have Aw:∀X,ZU.grownBy X (Z rb)→Below w.heap.size w X:=fun X hg=>zAa ah (zBT hg hwz ah.size) (Nat.le_refl _)
   have HTX:=qH Aw;have wY:=qH (zMp rb F [] E E S ZU hrx (by omega) (fun X hg=>HT.out.below (Aw X hg)));clear Aw hrx ah;go_wp2_with fail
   refine wY.out.mono ?_;rintro e X ⟨A1,c1,rfl,dP,ld,bT⟩;have aJ:=HTX.out X bT;have tw:=Ag.grown bT (fun e=>by injection e;omega);obtain ⟨Ws,mJ⟩:∃x,zBx 32 S=x:=⟨_,rfl⟩
   have hWl:Ws.length≤8001:=by rw [←mJ];have:=zCv S;omega
   rw [mJ] at dP ld ⊢;rw [Bool.false_or,Bool.false_or] at ld;have wL:=qH mJ;obtain ⟨bd,hbd⟩:∃b,zEW Ws=b:=⟨_,rfl⟩
   obtain ⟨ls,hls⟩:∃b,zGt F.L Ws=b:=⟨_,rfl⟩
   rw [hbd,hls] at ld;have c4:=ld.bad4.1;have c5:=ld.lost5;simp only at c4 c5;have yF:=qH hbd;have nh:=qH hls;clear mJ hbd hls bT Ag wY
   cases bd with
   | true =>
    have HF:=qH (eM.out [] 6 (by unfold rqR;rw [if_neg yr.out,if_neg Cc.out,wL.out,if_pos yF.out]) _ X ⟨U,0,0,[],rfl,rfl,by omega,CodesOwn.none_ _ _ _,aJ⟩);clear ld dP aJ tw c5;go_wp2_with fail
    go_ret2;exact HF.out
   | false =>
   cases ls with
   | true =>
    have HF:=qH (eM.out [] 8 (by unfold rqR;rw [if_neg yr.out,if_neg Cc.out,wL.out,if_neg (by rw [yF.out];simp),if_pos nh.out]) _ X ⟨U,0,0,[],rfl,rfl,by omega,CodesOwn.none_ _ _ _,aJ⟩);clear ld dP aJ tw;go_wp2_with fail
    go_ret2;exact HF.out
   | false =>
    have xY:=zSF yF.out nh.out;obtain ⟨l,hl⟩:∃l,Ws.map (zNj F.L)=l:=⟨_,rfl⟩
    have hll:l.length=Ws.length:=by rw [←hl,List.length_map]
    have vW:Bits X A1 Ws.length l:=by
     rw [hl] at dP;refine ⟨dP.els (fun _=>rfl) (by omega) (by omega),fun x hx=>?_⟩;rw [←hl] at hx;obtain ⟨y,_,rfl⟩:=List.mem_map.1 hx;exact zVc (by rw [cU.out];omega) y
    rw [hl,cU.out] at xY;have Fd:=qH xY;have ii:=qH (show zGM F.L S=l by unfold zGM;rw [wL.out,hl]);obtain ⟨n1,nU⟩:∃n,Ws.length=n:=⟨_,rfl⟩
    rw [nU] at vW hWl hll ⊢;have de:=qH hll;have np:=qH (zIx F.n A1 n1 c1 l X vW nT (by omega) (fun x hx=>by have:=xY x hx;omega))
    have lI:=qH (show ∀r,(if zGv l=E then (([]:List (List Lt)),(3:Int)) else if 12 < crS F.L S∨400 < (zCi F.L S).length then ([],7) else if zBm F.L F.re F.lo (crS F.L S) (zCi F.L S) (2 ^ crS F.L S)=[] then ([],3) else (zBm F.L F.re F.lo (crS F.L S) (zCi F.L S) (2 ^ crS F.L S),0))=r→rqR F.L F.re F.lo S=r by
     intro r hr
     unfold rqR
     rw [if_neg yr.out,if_neg Cc.out,wL.out,if_neg (by rw [yF.out];simp),if_neg (by rw [nh.out];simp),ii.out]
     exact hr)
    clear ld xY hl nU hll dP;go_wp2_with fail
    clear c4 c5;refine np.out.mono ?_;intro e X2 hcp;rcases hcp with ⟨hcb,g2,rfl,eG,ai⟩ | ⟨hcb,rfl,ai⟩
    ·have sd:=zAa aJ ai aJ.size;have rU:=tw.below ai tw.lt;have vV:=vW.below ai;have Fn:=qH hcb;have yv:=qH (show ∀j,j < F.n+2→∃v:Nat,(zCG F.n l)[j]? = Z (v:Int)∧v≤100000 from fun j hj=>⟨_,zGw F.n l hj,by have:=zMf l (j:Int);have:=de.out;omega⟩);have CE:=qH (zMq F.n A1 n1 c1 l g2 (zCG F.n l) X2 vV ⟨eG.blk,Nat.zero_le _,eG.len⟩ nT (by omega) (fun x hx=>by have:=Fd.out x hx;omega) yv.out);obtain ⟨L,hL⟩:∃L,zBf (zCG F.n l) l=L:=⟨_,rfl⟩
     obtain ⟨cr,hcr⟩:∃c,zGu l / 2=c:=⟨_,rfl⟩
     rw [hL] at CE;rw [hcr];have fk:=qH (show zCi F.L S=L∧crS F.L S=cr by unfold zCi crS;rw [ii.out,cU.out];exact ⟨hL,hcr⟩)
     have wU:=qH (show ∀i,i < L.length→isC (la L i)=Q→1≤(la L i).id∧(la L i).id≤cr from fun i hi hc=>by
      rw [←hL] at hi hc ⊢
      obtain ⟨x,hx,h0,he⟩:=zQP hi hc
      have h1:=zSG Fn.out hx h0
      have h2:=Fd.out x hx
      rw [hcr] at h1
      rw [he];omega)
     have lH:=qH (show ∀r,(if 12 < cr∨400 < L.length then (([]:List (List Lt)),(7:Int)) else if zBm F.L F.re F.lo cr L (2 ^ cr)=[] then ([],3) else (zBm F.L F.re F.lo cr L (2 ^ cr),0))=r→rqR F.L F.re F.lo S=r by
      intro r hr
      refine lI.out r ?_
      rw [if_neg (by rw [Fn.out];simp),fk.out.1,fk.out.2]
      exact hr)
     have hcb2:cr≤20001:=by rw [←hcr];have:=zMg l;have:=de.out;omega
     clear hcb eG ai vW vV hL hcr aJ tw np;go_wp2_with fail
     refine CE.out.mono ?_;rintro e X3 ⟨B3,m3,d3,rfl,mR,ao⟩;have DR:L.length=m3:=mR.len;have aO:=zAa sd ao sd.size;have rT:=rU.below ao rU.lt;have rH:m3≤1000000:=by
      have h8:=zOt (zCG F.n l) l;have h7:=de.out;have h9:=fk.out.1;unfold zCi at h9;rw [ii.out,cU.out] at h9;rw [h9] at h8;omega
     have hbl:=(Below.refl X3.heap.size X3).alloc (Nat.le_refl _) (.cells #[D J (F.n:Int),H B3 m3 d3] 55);have lq:Blk (X3.alloc (.cells #[D J (F.n:Int),H B3 m3 d3] 55)) X3.heap.size 55 #[D J (F.n:Int),H B3 m3 d3]:=Blk.new _ _ _;have AQ:=mR.lets.below hbl;have gO:=zAa aO hbl aO.size;have nW:=rT.below hbl rT.lt;clear mR ao sd rU aO rT hbl CE;go_upto_region 17 with fail
     generalize X3.alloc (.cells #[D J (F.n:Int),H B3 m3 d3] 55)=X4 at lq AQ gO nW ⊢;generalize X3.heap.size=a13 at lq ⊢;have u1:X4.cell? ⟨a13,1,U⟩=Z (H B3 m3 d3):=(lq.cell 1).trans rfl;by_cases h7:12 < cr∨400 < L.length
     ·have HF:=qH (eM.out [] 7 (lH.out _ (if_pos h7)) _ X4 ⟨U,0,0,[],rfl,rfl,by omega,CodesOwn.none_ _ _ _,gO⟩);clear lq AQ gO nW;by_cases h8:12 < cr
      ·have i0:(12:Int) < (cr:Int):=by omega
       clear h7 u1;go_wp2_with fail
       go_ret2;exact HF.out
      ·have i0:¬(12:Int) < (cr:Int):=by omega
       have i1:(400:Int) < (m3:Int):=by omega
       clear h7;go_wp2_with fail
       go_ret2;exact HF.out
     ·have i0:¬(12:Int) < (cr:Int):=by omega
      have i1:¬(400:Int) < (m3:Int):=by omega
      have mG:cr≤12:=by omega
      obtain ⟨N,hN⟩:∃N,2 ^ cr=N:=⟨_,rfl⟩
      have hN4:N≤4096:=by rw [←hN];exact Nat.le_trans (Nat.pow_le_pow_right (by omega) mG) (by decide)
      have tU:=qH (show ∀r,(if zBm F.L F.re F.lo cr L N=[] then (([]:List (List Lt)),(3:Int)) else (zBm F.L F.re F.lo cr L N,0))=r→rqR F.L F.re F.lo S=r by
       intro r hr
       refine lH.out r ?_
       rw [if_neg h7,hN]
       exact hr)
      have yy:=qH DR;have tR:=qH (zSI mG hN);clear h7 hN;go_upto_region 19 with fail
      clear i0 i1;go_upto_region 20 with fail -- B
      go_wp2_with fail -- A
      first
       | rw [tR.out.1]
       | rw [tR.out.2.1]
       | rw [tR.out.2.2.1]
       | rw [tR.out.2.2.2]
      have Aq:w.heap.size≤X4.heap.size:=gO.size;have Cx:=qH (show ∀i,i < m3→isC (la L i)=Q→1≤(la L i).id∧(la L i).id≤cr from fun i hi hc=>wU.out i (by rw [yy.out];exact hi) hc);clear DR u1;go_loopw [14,70] (fun v14 v70 wv=>∃(nu m:Nat) (X:World) (A':Option Addr) (c':Nat) (Es:List Ce),X=wv∧nu≤N∧m≤nu∧v70=D J nu∧v14=H A' m c'∧CodesOwn X X4.heap.size (F.n:Int) A' m c' Es∧Below X4.heap.size X4 X∧Hid (List.map (fun x:Ce=>x.L) Es=zBm F.L F.re F.lo cr L nu)) (fun _ v70 _=>N-(intOf v70).toNat)
      case atStart=>exact ⟨0,0,_,U,0,[],rfl,by omega,by omega,rfl,rfl,CodesOwn.none_ _ _ _,Below.refl _ _,qH rfl⟩
      case round =>
       obtain ⟨nu,m,X5,A',c',Es,oh,hnu,hmn,rfl,rfl,sA,ai,HS⟩:=hrel;subst oh;by_cases hlt:nu < N
       ·have j0:(0:Int)≤(nu:Int):=by omega
        have j1:(nu:Int) < (N:Int):=by omega
        have fK:=lq.below ai lq.lt;have dV:=nW.below ai nW.lt;have DQ:=AQ.below ai;have gM:=zAa gO ai gO.size;obtain ⟨M,hM⟩:∃M,zCS cr nu L=M:=⟨_,rfl⟩
        obtain ⟨p,hp⟩:∃p,zBG F.L F.re F.lo (F.L.length:Int) M=p:=⟨_,rfl⟩
        have wN:=qH (zQQ (K:=(F.n:Int)) (d:=d3) hM X5 DQ rH mG (by omega) Cx.out);have nf:=qH (fun wx (hx:Fgs wx F.A F.n F.L) (B:Option Addr) (q r:Nat) (hy:Lets wx B q M)=>zGK (d:=r) hp wx hx HHC.out hy);rw [cU.out] at nf;have yD:=qH (fun (h:p=Q)=>zMr (F:=F.L) (re:=F.re) (lo:=F.lo) (cr:=cr) (L:=L) (m:=nu) (by rw [hM,hp,h]));have rn:=qH (fun (h:p=E)=>zOC (F:=F.L) (re:=F.re) (lo:=F.lo) (cr:=cr) (L:=L) (m:=nu) (by rw [hM,hp,h]));rw [hM] at yD;obtain ⟨u0,u1⟩:=cQ2 fK;have va:nu+1≤N:=hlt;have vd:m+1≤nu+1:=by omega
        have tq:m+1≤1000000:=by omega
        have da:m≤nu+1:=by omega
        clear hM hp DQ fK;go_wp2_with fail
        clear u0 u1;refine wN.out.mono ?_;rintro e X6 ⟨B5,m5,d5,rfl,vI,ao⟩;have D1:=sA.below ao;have kC:=dV.below ao dV.lt;have rZ:=zAa gM ao gM.size;have sh:=zAa ai ao ai.size;have hlow:=fun k hk=>(sA.row.lt k hk).2
        have CD:=qH (show m5≤d5 from vI.row.cap);have sY:=qH (fun k (hk:blk B5=Z k)=>(show k < X6.heap.size∧blk A'≠Z k from ⟨(vI.row.lt k hk).2,fun e2=>by have h1:=(vI.row.lt k hk).1;have h2:=hlow k e2;omega⟩));have hbl:=(Below.refl X6.heap.size X6).alloc (Nat.le_refl _) (.cells #[D J (F.n:Int),H B5 m5 d5] 55);have lp:Blk (X6.alloc (.cells #[D J (F.n:Int),H B5 m5 d5] 55)) X6.heap.size 55 #[D J (F.n:Int),H B5 m5 d5]:=Blk.new _ _ _;have AW:=D1.below hbl;have xF:=kC.below hbl kC.lt;have rY:=zAa rZ hbl rZ.size;have oe:=zAa sh hbl sh.size;have xW:=vI.lets.below hbl;have uR:X6.heap.size≤(X6.alloc (.cells #[D J (F.n:Int),H B5 m5 d5] 55)).heap.size:=hbl.size;clear sA dV gM ai vI ao D1 kC rZ sh hlow hbl wN;go_upto_region 24 with fail
        have kW:=qH (fun k (hk:blk B5=Z k)=>(show k < (X6.alloc (.cells #[D J (F.n:Int),H B5 m5 d5] 55)).heap.size∧blk A'≠Z k from ⟨Nat.lt_of_lt_of_le (sY.out k hk).1 uR,(sY.out k hk).2⟩));clear sY uR;generalize X6.alloc (.cells #[D J (F.n:Int),H B5 m5 d5] 55)=X7 at lp AW xF rY oe xW kW ⊢;generalize X6.heap.size=a16 at lp ⊢;obtain ⟨u0,u1⟩:=cQ2 lp;obtain ⟨v0,v1,v2⟩:=cQ3 xF;clear xF;go_wp2_with fail
        clear u0 u1 v0 v1 v2;refine (nf.out X7 (HA.out.below rY) B5 m5 d5 xW).mono ?_;rintro e X8 ⟨rfl,bc⟩;have lU:=lp.below bc lp.lt;have vR:=AW.below bc;have AO:=xW.below bc;have oc:=zAa oe bc oe.size;have wQ:=qH (fun k (hk:blk B5=Z k)=>(show k < X8.heap.size∧blk A'≠Z k from ⟨Nat.lt_of_lt_of_le (kW.out k hk).1 bc.size,(kW.out k hk).2⟩));clear lp AW xW oe rY bc kW nf
        cases p with
        | false =>
         have HF:=qH (show List.map (fun x:Ce=>x.L) Es=zBm F.L F.re F.lo cr L (nu+1) by rw [rn.out rfl];exact HS.out);clear lU AO;go_wp2_with fail
         go_roundw
         case rel=>exact ⟨nu+1,m,_,A',c',Es,rfl,va,da,by go_num,rfl,vR,oc,HF⟩
         case measure=>simp [intOf];omega
        | true =>
         have HF:=qH (show List.map (fun x:Ce=>x.L) (Es++[(⟨M,B5,m5,d5⟩:Ce)])=zBm F.L F.re F.lo cr L (nu+1) by rw [yD.out rfl,List.map_append,HS.out];rfl);obtain ⟨u0,u1⟩:=cQ2 lU;have th:X4.heap.size≤X8.heap.size:=oc.size;clear lU;go_upto_region 26 with (at_builtin;refine zGT ?_)
         refine qH ?_;refine zXN (base:=X4.heap.size) (K:=(F.n:Int)) (A:=A') (n:=m) (c:=c') (Es:=Es) (y:=⟨M,B5,m5,d5⟩) (N:=m+1) rfl (.tmp 80) (.tmp 82) ?_ ?_ ?_ ?_ ?_ ?_ ?_ ?_
         ·rfl
         ·exact vR.row
         ·rfl
         ·rfl
         ·rfl
         ·exact tq
         ·exact th
         intro A2 c2 w9 hR9 bx bg;have hE9:=vR.push ⟨M,B5,m5,d5⟩ ⟨AO,wQ.out⟩ CD.out hR9 bx bg;have aP:=oc.trans (vR.row.belowOf bx th);clear vR AO oc hR9 bx bg u0 u1;go_wp2_with fail
         go_roundw
         case rel=>exact ⟨nu+1,m+1,_,A2,c2,_,rfl,va,vd,by go_num,rfl,hE9,aP,HF⟩
         case measure=>simp [intOf];omega
       ·have j1:¬(nu:Int) < (N:Int):=by omega
        have hin:nu=N:=by omega
        have hlen:=sA.len;have tK:=HS.out;rw [hin] at tK;have gM:=zAa gO ai gO.size;by_cases hm0:m=0
        ·have hes:Es=[]:=List.length_eq_zero_iff.1 (by omega);have HF:=qH (eM.out [] 3 (tU.out _ (if_pos (by rw [←tK,hes];rfl))) _ X5 ⟨U,0,0,[],rfl,rfl,by omega,CodesOwn.none_ _ _ _,gM⟩);subst hm0;clear sA ai gM tK hlen hin hlt HS;go_wp2_with fail
         go_ret2;exact HF.out
        ·have i5:((m:Int)==0)=E:=by simp;omega
         have HF:=qH (eM.out (List.map (fun x:Ce=>x.L) Es) 0 (tU.out _ (by rw [if_neg (by rw [←tK];intro h;have:=congrArg List.length h;simp at this;rw [this] at hlen;simp at hlen;omega),←tK])) _ X5 ⟨A',m,c',Es,rfl,rfl,by omega,sA.mono Aq,gM⟩);clear sA ai gM tK hlen hin hlt HS hm0;go_wp2_with fail
         go_ret2;exact HF.out
    ·have HF:=qH (eM.out [] 3 (lI.out _ (if_pos hcb)) _ X2 ⟨U,0,0,[],rfl,rfl,by omega,CodesOwn.none_ _ _ _,zAa aJ ai aJ.size⟩);clear hcb ai vW aJ tw;go_wp2_with fail
     go_ret2;exact HF.out
 ·have HF:=qH (eM.out [] ZT (by unfold rqR;rw [HE.out,if_pos h0]) _ Y2 ⟨U,0,0,[],rfl,rfl,by omega,CodesOwn.none_ _ _ _,ac⟩);have k0:(ZT != 0)=Q:=by simpa using h0
  clear hcs h0 ac aC;go_wp2_with fail
  go_ret2;exact HF.out
end Go.Proofs.YtlmdfmnbcndhoaaGreatDoor
namespace Go.Proofs.YtlmdfmnbcndhoaaGreatDoor
open Go.RowKit
theorem zQR (A:Option Addr) (n c:Nat) (re lo:Int) (w:World) :
  Calls Tryz.prog 15 #[frV A n c re lo] w fun e w'=>e=.returned (G (decide (n≤60)))∧Below w.heap.size w w':=by
 have aa:Below w.heap.size w (w.alloc (.cells #[H A n c,D J re,D J lo] 24)):=(Below.refl _ _).alloc (Nat.le_refl _) _;by_cases h:n≤60
 ·have i0:(n:Int)≤60:=by omega
  rw [decide_eq_true h];clear h;go_enter Tryz.func15,Tryz.ntmps15;go_wp2_with fail
  go_ret;exact ⟨rfl,aa⟩
 ·have i0:¬(n:Int)≤60:=by omega
  rw [decide_eq_false h];clear h;go_enter Tryz.func15,Tryz.ntmps15;go_wp2_with fail
  go_ret;exact ⟨rfl,aa⟩
end Go.Proofs.YtlmdfmnbcndhoaaGreatDoor
namespace Go.Proofs.YtlmdfmnbcndhoaaGreatDoor
open Go.RowKit
def TOk (L:List Fg):Prop:=∀i,i < L.length→zAx (fa L i)=Q
theorem frOk.tok {L:List Fg} {re lo:Int} (h:frOk L re lo):TOk L:=fun _ hi=>h.there hi
theorem TOk.len {L:List Fg} (h:TOk L) {f:Int} (h1:1≤f) (h2:f≤(L.length:Int)):(nmF L f).length≤43:=zKr (zGY (h (f-1).toNat (by omega)))
set_option maxHeartbeats 800000 in
theorem zQS (A:Option Addr) (n c:Nat) (L:List Fg) (re lo:Int) (f:Int) (w:World) (hA:Fgs w A n L) (hv:TOk L) (h1:1≤f) (h2:f≤(n:Int)) :
  Calls Tryz.prog 63 #[frV A n c re lo,D J f] w fun e w'=>e=.returned (W (bA (nmF L f)))∧Below w.heap.size w w':=by
 have hle:=hA.le;have aa:Below w.heap.size w (w.alloc (.cells #[H A n c,D J re,D J lo] 24)):=(Below.refl _ _).alloc (Nat.le_refl _) _;have hA0:=hA.alloc (.cells #[H A n c,D J re,D J lo] 24);obtain ⟨i,hi⟩:∃i:Nat,f=(i:Int)+1:=⟨(f-1).toNat,by omega⟩
 have hin:i < n:=by omega
 obtain ⟨g,o,rfl,hg,⟨x0,x1,x2⟩,_⟩:=hA0.at_ hin;have hth:=hv i (by rw [hA.len];exact hin);have hnm:nmF L f=zAq (fa L i):=by unfold nmF;rw [hi,show ((i:Int)+1-1).toNat=i by omega]
 rw [hnm];have q0:IntKind.i64.wrap (f-1)=(i:Int):=by rw [hi,show (i:Int)+1-1=(i:Int) by omega];exact IntWalk.i64_in _ (by omega)
 have q1:wrap64 (f-1)=(i:Int):=by unfold wrap64;omega
 have q2:f-1=(i:Int):=by omega
 have j0:(0:Int)≤(i:Int):=by omega
 have j1:(i:Int) < (n:Int):=by omega
 generalize fa L i=x at x0 x1 x2 hth ⊢;have HN:=qH (zPA x hth (w.alloc (.cells #[H (Z ⟨g,o,U⟩) n c,D J re,D J lo] 24)));clear hi hnm hth hA0 hA hin h1 h2;go_enter Tryz.func63,Tryz.ntmps63;go_wp2_with fail
 refine HN.out.mono ?_;rintro e w2 ⟨rfl,ab⟩;have ac:=zAa aa ab aa.size;go_wp2_with fail
 go_ret;exact ⟨rfl,ac⟩
theorem zSK {A:Option Addr} {n:Nat} {c:Nat} {L:List Fg} {re lo:Int} {f:Int} {S:List UInt8} (h:nmF L f=S) (w:World) (hA:Fgs w A n L) (hv:TOk L) (h1:1≤f) (h2:f≤(n:Int)) :
  Calls Tryz.prog 63 #[frV A n c re lo,D J f] w fun e w'=>e=.returned (W (bA S))∧Below w.heap.size w w':=by
 subst h;exact zQS A n c L re lo f w hA hv h1 h2
theorem zMs (b:Bool) (Y ZU:ByteArray) (w:World):Calls Tryz.prog 64 #[G b,W Y,W ZU] w fun e w'=>e=.returned (W (if b then Y else ZU))∧w'=w:=by
 cases b
 all_goals
  go_enter Tryz.func64,Tryz.ntmps64;go_wp2_with fail
  go_ret;exact ⟨rfl,rfl⟩
theorem zKY {b:Bool} {Y ZU:ByteArray} {S:List UInt8} (h:(if b then Y else ZU)=bA S) (w:World):Calls Tryz.prog 64 #[G b,W Y,W ZU] w fun e w'=>e=.returned (W (bA S))∧w'=w:=by
 have:=zMs b Y ZU w;rw [h] at this;exact this
theorem zKZ {x:Int} {S:List UInt8} (h:Lib.itoa x=S) (hx:I64 x) (w:World):Calls Tryz.prog 78 #[D J x] w fun e w'=>e=.returned (W (bA S))∧Below w.heap.size w w':=by
 subst h;exact zBv x hx w
end Go.Proofs.YtlmdfmnbcndhoaaGreatDoor
namespace Go.Proofs.YtlmdfmnbcndhoaaGreatDoor
open Go.RowKit
def stdF:List Fg:=[⟨1,E,1⟩,⟨1,E,2⟩,⟨1,E,3⟩,⟨1,E,4⟩,⟨1,E,5⟩,⟨1,Q,5⟩,⟨1,Q,4⟩,⟨1,Q,3⟩,⟨1,Q,2⟩,⟨1,Q,1⟩]
def exL (s:Int):List Lt:=[⟨1,1,1,0,0,E⟩,⟨1,0,1,0,0,E⟩,⟨2,0,0,1,s,E⟩,⟨1,9,1,0,0,E⟩,⟨1,10,1,0,0,E⟩,⟨2,0,0,1,s,Q⟩]
def exS:List UInt8:=[76,49,46,49,60,32,49,117,32,82,49,46,49,62,32,49,111]
def exT:List It:=[⟨Z ⟨1,E,1⟩,1,E⟩,⟨U,1,E⟩,⟨Z ⟨1,Q,1⟩,1,Q⟩,⟨U,1,Q⟩]
def exB:List Bi:=[⟨1,1,E⟩,⟨0,1,E⟩,⟨10,1,Q⟩,⟨0,1,Q⟩]
theorem zWL:Lib.join (exT.map itW) [32]=exS:=by kernel_rfl
theorem zXO:∀t∈exT,okI t:=by
 intro t ht;simp only [exT,List.mem_cons,List.not_mem_nil,or_false] at ht;rcases ht with rfl | rfl | rfl | rfl<;>refine ⟨fun f hf=>?_,by simp only;omega,by simp only;omega⟩<;>first | (cases hf;done) | (injection hf with hf;subst hf;decide)
theorem zSL:zGM stdF exS=exB∧zEW (zBx 32 exS)=E∧zGt stdF (zBx 32 exS)=E:=by
 obtain ⟨h1,h2,h3⟩:=zQs stdF zXO;have hs:zBx 32 exS=exT.map itW:=by rw [←zWL];exact zOx (by simp [exT])
 unfold zGM;rw [hs,h1,h2,h3];exact ⟨by kernel_rfl,by kernel_rfl,by kernel_rfl⟩
theorem zSM:zAS stdF 6 4 exS=0:=by kernel_rfl
theorem zVi:zGv exB=Q:=by kernel_rfl
theorem zSN:zBm stdF 6 4 (zGu exB / 2) (zBf (zCG stdF.length exB) exB) (2 ^ (zGu exB / 2))=[exL 1]:=by kernel_rfl
theorem zSO:¬(12 < zGu exB / 2∨400 < (zBf (zCG stdF.length exB) exB).length):=by decide
theorem zXP:rqR stdF 6 4 exS=([exL 1],0):=by
 obtain ⟨h1,h2,h3⟩:=zSL;unfold rqR zCi crS;rw [h1,zSM,if_neg (by simp),if_neg (by decide),if_neg (by rw [h2];simp),if_neg (by rw [h3];simp),if_neg (by rw [zVi];simp),if_neg zSO,zSN,if_neg (by simp)]
theorem zTE:sqS stdF 6 4 10 (exL 1)=exS∧zBr stdF 6 4 10 (exL 1)=0:=⟨by kernel_rfl,by kernel_rfl⟩
end Go.Proofs.YtlmdfmnbcndhoaaGreatDoor
namespace Go.Proofs.YtlmdfmnbcndhoaaGreatDoor
open Go.RowKit
def zXQ:List UInt8:=[116,97,107,101,32,76,50,32,102,114,111,109,32,76,55,32,102,97,114,32,117,110,100,101,114]
def zXR:List UInt8:=[114,101,108,101,97,115,101,32,50,76,49]
theorem zSP {f:Fg} (h:zAx f=Q):zAq f≠[76,55]:=by
 obtain ⟨a1,a2,a3,a4⟩:=zAP.1 h;intro e;unfold zAq at e;rw [zCt a3 (by omega)] at e;have:=congrArg List.getLast? e;simp only [List.getLast?_append,List.getLast?_cons] at this;have h2:=zJq (a:=48+f.d.toNat) (b:=55) (by omega) (by omega) (by simpa using this);omega
theorem zVj (L:List Fg):zEU L zXQ=6:=by
 refine (zNg L fun n hn he=>?_).1;have h:=zEq n;rw [←he,show zBE zXQ=[[116,97,107,101],[76,50],[102,114,111,109],[76,55],[102,97,114],[117,110,100,101,114]] by kernel_rfl] at h;unfold zJu at h;injection h with h1 h2
 injection h2 with h2 h3
 have eW:1≤n.kind∧n.kind≤8:=by
  rcases hn.2 with h | h | h | h | h<;>omega
 have hk:n.kind=5:=by
  rw [←zDZ eW.1 eW.2,←h1];decide
 obtain ⟨x,hx,hxo⟩:∃x,n.fr=Z x∧zCR x:=by
  rcases hn.2 with h | h | h | h | h
  ·omega
  ·omega
  ·omega
  ·exact h.2.1
  ·omega
 unfold tlT at h3;rw [if_neg (by omega),if_neg (by omega),if_pos hk] at h3;injection h3 with _ h4
 unfold frT at h4;rw [hx] at h4;unfold plT at h4;injection h4 with h5 _
 exact zSP hxo.1 h5.symm
theorem zVk:zEU stdF zXR=8:=by
 have h:okN ⟨1,⟨2,E,1⟩,U,[],E⟩:=⟨by decide,.inl ⟨.inl rfl,rfl,rfl,rfl⟩⟩;have hl:zDG ⟨1,⟨2,E,1⟩,U,[],E⟩=zXR:=by kernel_rfl
 have:=(zHi stdF h).1;rw [hl] at this;rw [this];decide
end Go.Proofs.YtlmdfmnbcndhoaaGreatDoor
namespace Go.Proofs.YtlmdfmnbcndhoaaGreatDoor
open Go.RowKit
def exO:Og:=⟨3,9,⟨5,1,E,0⟩,[⟨⟨6,1,E,0⟩,Q⟩],E⟩
def zXS:List UInt8:=[112,105,99,107,32,82,50,32,111,118,101,114,32,82,53,32,110,101,97,114,32,108,111,111,112,32,49,44,32,102,114,111,109,32,76,53,32,110,101,97,114,32,108,111,111,112,32,49]
def zNt:List UInt8:=[82,50,60,82,53,110,111,60,76,53,110]
def zXT:List UInt8:=[112,105,99,107,32,82,50,32,111,118,101,114,32,82,53,32,110,101,97,114,44,32,102,114,111,109,32,76,53,32,110,101,97,114,10]
theorem zNu:zBi stdF 6 4 [exO]=0∧zDQ stdF exO=zXS:=⟨by kernel_rfl,by kernel_rfl⟩
def exN:Nop:=⟨3,⟨1,Q,2⟩,Z ⟨⟨1,E,5⟩,0,E,0⟩,[(⟨⟨1,Q,5⟩,0,E,0⟩,Q)],E⟩
theorem zTF:okN exN∧zXD exN:=by
 have h1:zCR ⟨⟨1,E,5⟩,0,E,0⟩:=⟨by decide,by simp,by simp,by simp,by simp⟩;have h2:zCR ⟨⟨1,Q,5⟩,0,E,0⟩:=⟨by decide,by simp,by simp,by simp,by simp⟩;refine ⟨⟨by decide,.inr (.inr (.inl ⟨rfl,⟨_,rfl,h1⟩,fun y hy=>?_,rfl⟩))⟩,rfl,fun x hx=>?_,fun y hy=>?_⟩
 ·rw [List.mem_singleton.1 hy];exact h2
 ·injection hx with hx;rw [←hx];exact ⟨rfl,rfl,rfl⟩
 ·rw [List.mem_singleton.1 hy];exact ⟨rfl,rfl,rfl⟩
theorem zVl:zHT exN=zNt:=by kernel_rfl
theorem zNv:itE stdF zNt=0∧itO stdF zNt=[oOf stdF exN]:=by
 have hs:zBx 32 zNt=[zNt]:=by kernel_rfl
 have h:=zUw zTF.1 zTF.2;rw [zVl] at h;have ha:zDi (zBx 32 zNt)=Z [exN]:=by rw [hs,zDi,h,zDi]
 have hl:List.any [exN] (zAG stdF)=E:=by decide
 unfold itE itO;rw [if_neg (by decide),if_neg (by decide),ha];simp only [hl];exact ⟨rfl,rfl⟩
theorem zNw:trE stdF 6 4 zNt 2 1=0∧trS stdF 6 4 zNt 2 1=zXT:=by
 have hb:zAS stdF 6 4 zNt=0:=by kernel_rfl
 have hf:frB stdF 6 4=Q:=by kernel_rfl
 have h1:ntE stdF 6 4 2 zNt=0:=by
  unfold ntE rsE;rw [if_neg (by omega),if_pos hb];exact zNv.1
 have h2:ntO stdF 6 4 2 zNt=[oOf stdF exN]:=by
  unfold ntO rsO;rw [if_neg (by omega),if_pos hb];exact zNv.2
 have h3:trE stdF 6 4 zNt 2 1=0:=by
  unfold trE;rw [if_pos ⟨hf,.inr rfl,.inl rfl⟩,if_pos h1,if_neg (by omega)]
 refine ⟨h3,?_⟩;unfold trS;rw [if_pos h3,h2]
 kernel_rfl
end Go.Proofs.YtlmdfmnbcndhoaaGreatDoor
namespace Go.Proofs.YtlmdfmnbcndhoaaGreatDoor
open Go
def ovC (o:Bool):UInt8:=if o then 111 else 117
def sgC (s:Int):UInt8:=if s=1 then 43 else if s = -1 then 45 else 63
def ltS (l:Lt):List UInt8:=if l.kind=1 then Lib.itoa l.gate++[46]++Lib.itoa l.rank else if l.kind=2 then Lib.itoa l.id++[ovC l.over]++[sgC l.sign] else [63]
def zLa (L:List Lt):List UInt8:=L.flatMap (fun l=>32 :: ltS l)
def zCH (K:Int) (L:List Lt):List UInt8:=Lib.itoa K++[58]++zLa L
theorem zJT (L:List Lt) (l:Lt):zLa (L++[l])=zLa L++([32]++ltS l):=by unfold zLa;rw [List.flatMap_append];simp
theorem zQT {x:Int} (h:I64 x):-9223372036854775808≤x∧x≤9223372036854775807:=h
theorem zQU {l:Lt} (h:LtOk l):(ltS l).length≤44:=by
 have hg:=zQT h.gate;have hr:=zQT h.rank;have hi:=zQT h.id;have h1:=Lib.itoa_length_le _ hg.1 hg.2;have h2:=Lib.itoa_length_le _ hr.1 hr.2;have h3:=Lib.itoa_length_le _ hi.1 hi.2;unfold ltS;split
 ·simp;omega
 ·split
  ·simp;omega
  ·simp
theorem zGN:∀{L:List Lt},(∀x∈L,LtOk x)→(zLa L).length≤45*L.length
 | [],_=>by simp [zLa]
 | l :: L,h=>by
  have h1:=zQU (h l (List.mem_cons_self ..));have h2:=zGN (fun x hx=>h x (List.mem_cons_of_mem _ hx));unfold zLa at h2 ⊢;rw [List.flatMap_cons,List.length_append,List.length_cons,List.length_cons];omega
theorem zOD {K:Int} {L:List Lt} (hK:I64 K) (h:∀x∈L,LtOk x):(zCH K L).length≤45*L.length+22:=by
 have h1:=Lib.itoa_length_le K hK.1 hK.2;have h2:=zGN h;unfold zCH;simp only [List.length_append,List.length_cons,List.length_nil];omega
end Go.Proofs.YtlmdfmnbcndhoaaGreatDoor
namespace Go.Proofs.YtlmdfmnbcndhoaaGreatDoor
open Go.RowKit
theorem zJU {x:Int} (hx:I64 x):(Lib.itoa x).length≤21:=Lib.itoa_length_le x hx.1 hx.2
end Go.Proofs.YtlmdfmnbcndhoaaGreatDoor
namespace Go.Proofs.YtlmdfmnbcndhoaaGreatDoor
open Go.RowKit
theorem zXU {L:List Lt} {i:Nat} (h:i < L.length):L[i]? = Z (la L i):=by unfold la;rw [List.getElem?_eq_getElem h];rfl
theorem zVm {L:List Lt} {i:Nat} (h:i < L.length):L.take (i+1)=L.take i++[la L i]:=by rw [List.take_add_one,zXU h];rfl
theorem zMt {K:Int} {L:List Lt} {i:Nat} (h:i < L.length):zCH K (L.take (i+1))=zCH K (L.take i)++32 :: ltS (la L i):=by
 unfold zCH;rw [zVm h,zJT];simp
theorem zVn {L:List Lt} (i:Nat) (h:∀x∈L,LtOk x):∀x∈L.take i,LtOk x:=fun x hx=>h x (List.mem_of_mem_take hx)
end Go.Proofs.YtlmdfmnbcndhoaaGreatDoor
