/-
  Lemmas, part 38. Conditions: each theorem's own.
-/
import Derived.Test.YtlmdfmnbcndhoaaGreatDoorRl37
namespace Go.Proofs.YtlmdfmnbcndhoaaGreatDoor
open Go.RowKit
theorem zSf {w:World} {base:Nat} {K:Int} (hb:base≤w.heap.size):CodesOwn (w.alloc (.cells #[.int .i64 K,.slice none 0 0] 55)) base K (some ⟨w.heap.size,0,none⟩) 1 1 [⟨[],none,0,0⟩]:=by
 refine ⟨⟨rfl,Nat.le_refl _,fun e=>(by cases e),fun ad ha=>?_⟩,fun e he=>?_,fun e he=>by rw [List.mem_singleton.1 he];exact Nat.le_refl _⟩
 ·injection ha with ha
  subst ha;have hk:=Blk.new w 55 #[.int .i64 K,.slice none 0 0];refine ⟨rfl,hb,by simp,fun j u hu=>?_,fun j hj=>⟨?_,hk.frozen _⟩⟩
  ·rw [Nat.zero_add,hk.cell];simpa [zTn] using hu
  ·rw [Nat.zero_add,hk.cell];rcases (show j=0∨j=1 by omega) with rfl | rfl<;>rfl
 ·rw [List.mem_singleton.1 he];exact ⟨Lets.nil _ _,fun k hk=>by cases hk⟩
theorem zSg {cr N:Nat} (h:cr≤12) (hN:2 ^ cr=N):wrap64 ((2:Int) ^ cr)=(N:Int)∧IntKind.i64.wrap ((2:Int) ^ cr)=(N:Int)∧IntKind.i64.wrap (1*(2:Int) ^ cr)=(N:Int)∧wrap64 (1*(2:Int) ^ cr)=(N:Int):=by
 have pu:(2:Int) ^ cr=(N:Int):=by rw [←hN];simp
 have hN4:N≤4096:=by rw [←hN];exact Nat.le_trans (Nat.pow_le_pow_right (by omega) h) (by decide)
 have h1:IntKind.i64.wrap (N:Int)=(N:Int):=IntWalk.i64_in _ (by omega);have h2:wrap64 (N:Int)=(N:Int):=by unfold wrap64;omega
 rw [Int.one_mul,pu];exact ⟨h2,h1,h1,h2⟩
theorem zSh {L:List Fg} {re lo:Int} {S:List UInt8} (h:zAy L re lo S=0):L.length≤40∧S.length≤8000:=⟨(zCB.1 (zBP h).2).1,(zBP h).1⟩
theorem zQl {K:Int} {B:Option Addr} {n d:Nat} {L M:List Lt} {cr nu:Nat} (h:zCE cr nu L=M) (w:World) (hB:Lets w B n L) (hn:n≤1000000) (hcr:cr≤12) (hnu:nu < 4096) (hid:∀i,i < n→isC (la L i)=true→1≤(la L i).id∧(la L i).id≤cr) :
  Calls Tryz.prog 82 #[.agg #[.int .i64 K,.slice B n d],.int .i64 (cr:Int),.int .i64 (nu:Int)] w (zLS w K M):=by
 subst h;exact zKA K B n d L cr nu w hB hn hcr hnu hid
set_option maxHeartbeats 12800000 in
set_option maxRecDepth 100000 in
theorem zFj (F:Fm) (S:List UInt8) (w:World) (hA:Fgs w F.A F.n F.L) (hc:F.n≤F.c) (ht:Tabs w) :
  Calls Tryz.prog 37 #[frV F.A F.n F.c F.re F.lo,.string (bA S)] w (zSc w (F.n:Int) (rqR F.L F.re F.lo S).1 (rqR F.L F.re F.lo S).2):=by
 have nJ:F.L.length=F.n:=hA.len;have ah:Below w.heap.size w (w.alloc (.cells #[.slice F.A F.n F.c,.int .i64 F.re,.int .i64 F.lo] 24)):=(Below.refl _ _).alloc (Nat.le_refl _) _;have hk0:Blk (w.alloc (.cells #[.slice F.A F.n F.c,.int .i64 F.re,.int .i64 F.lo] 24)) w.heap.size 24 #[.slice F.A F.n F.c,.int .i64 F.re,.int .i64 F.lo]:=Blk.new _ _ _;have HA:=qH hA;have HT:=qH ht;have eT:=qH nJ;obtain ⟨E,hE⟩:∃E,zAy F.L F.re F.lo S=E:=⟨_,rfl⟩
 have hcs:=zEo F.L F.re F.lo S;rw [hE] at hcs;have kY:=qH (fun wx (hx:Fgs wx F.A F.n F.L)=>zDd F.A F.n F.c F.L F.re F.lo S wx hx hc);simp only [hE] at kY;have HE:=qH hE;obtain ⟨⟨TC,TE⟩,pB⟩:∃x,rqR F.L F.re F.lo S=x:=⟨_,rfl⟩
 rw [pB];simp only;have fm:=qH (fun (Cs:List (List Lt)) (er:Int) (hq:rqR F.L F.re F.lo S=(Cs,er)) (e:Ending) (wx:World) (h:zSc w (F.n:Int) Cs er e wx)=>(show zSc w (F.n:Int) TC TE e wx by rw [pB] at hq;injection hq with h1 h2;subst h1;subst h2;exact h));have HHC:=qH hc;clear hA ht hE pB nJ hc;go_enter Tryz.func37,Tryz.ntmps37;go_wp2_with fail
 generalize w.alloc (.cells #[.slice F.A F.n F.c,.int .i64 F.re,.int .i64 F.lo] 24)=Y at ah hk0 ⊢;refine (kY.out Y (HA.out.below ah)).mono ?_;rintro e Y2 ⟨rfl,ai⟩;have bt:=hk0.below ai hk0.lt;have al:=zAa ah ai ah.size;clear hk0 ah ai kY;by_cases h0:E=0
 ·subst h0;obtain ⟨yc,hS8⟩:=zSh HE.out;have pT:F.n≤40:=by rw [←eT.out];exact yc
  have AH:=qH (show ¬(zAy F.L F.re F.lo S≠0) from fun h=>h HE.out);obtain ⟨v0,v1,v2⟩:=cQ3 bt;have n0:=zAn S zJo;have hwz:w.heap.size≤Y2.heap.size:=al.size;have hwr:w.heap.size < Y2.heap.size:=bt.lt;clear hcs yc;by_cases hba:S=zJo
  ·rw [show (S==zJo)=true from by simpa using hba] at n0;have HF:=qH (fm.out [[]] 0 (by unfold rqR;rw [if_neg AH.out,if_pos hba]) _ _ ⟨some ⟨Y2.heap.size,0,none⟩,1,1,[⟨[],none,0,0⟩],rfl,rfl,by omega,zSf (K:=(F.n:Int)) hwz,al.alloc al.size _⟩);unfold zJo at n0;clear hba bt al;go_wp2_with fail
   go_ret2;exact HF.out
  ·rw [show (S==zJo)=false from by simpa using hba] at n0;unfold zJo at n0;have th:=qH hba;have hbl:=(Below.refl Y2.heap.size Y2).alloc (Nat.le_refl _) (.cells (rdC F.A F.n F.c F.re F.lo none 0 0 false false) 123);have aI:=zAa al hbl al.size
   have hrx:RX (Y2.alloc (.cells (rdC F.A F.n F.c F.re F.lo none 0 0 false false) 123)) Y2.heap.size F ⟨[],false,false⟩ :=
    ⟨⟨none,0,0,Blk.new _ _ _,Els.nil _ _,Nat.le_refl _,fun k hk=>by cases hk⟩,HA.out.below aI,fun h0 k hk=>by
     obtain ⟨g,o,e,hg,_⟩:=HA.out.1.2.2 h0
     rw [e] at hk
     injection hk with hk
     have iE:g=k:=hk
     omega⟩
   have ul:=bt.below hbl bt.lt;clear hba bt al hbl;go_upto_region 8 with fail
   clear v0 v1 v2 n0;generalize Y2.alloc (.cells (rdC F.A F.n F.c F.re F.lo none 0 0 false false) 123)=Z at aI hrx ul ⊢;generalize Y2.heap.size=rb at hrx hwz hwr ⊢;have Ch:∀X,Z.grownBy X (some rb)→Below w.heap.size w X:=fun X hg=>zAa aI (zBB hg hwz aI.size) (Nat.le_refl _)
   have jN:=qH Ch;have zl:=qH (zLT rb F [] false false S Z hrx (by omega) (fun X hg=>HT.out.below (Ch X hg)));clear Ch hrx aI;go_wp2_with fail
   refine zl.out.mono ?_;rintro e X ⟨A1,c1,rfl,fG,gG,et⟩;have bh:=jN.out X et;have vM:=ul.grown et (fun e=>by injection e;omega);obtain ⟨Ws,uF⟩:∃x,zAR 32 S=x:=⟨_,rfl⟩
   have hWl:Ws.length≤8001:=by rw [←uF];have:=zBu S;omega
   rw [uF] at fG gG ⊢;rw [Bool.false_or,Bool.false_or] at gG;have yT:=qH uF;obtain ⟨bd,hbd⟩:∃b,zEq Ws=b:=⟨_,rfl⟩
   obtain ⟨ls,hls⟩:∃b,zFP F.L Ws=b:=⟨_,rfl⟩
   rw [hbd,hls] at gG;have c4:=gG.bad4.1;have c5:=gG.lost5;simp only at c4 c5;have nP:=qH hbd;have pk:=qH hls;clear uF hbd hls et ul zl
   cases bd with
   | true =>
    have HF:=qH (fm.out [] 6 (by unfold rqR;rw [if_neg AH.out,if_neg th.out,yT.out,if_pos nP.out]) _ X ⟨none,0,0,[],rfl,rfl,by omega,CodesOwn.none_ _ _ _,bh⟩);clear gG fG bh vM c5;go_wp2_with fail
    go_ret2;exact HF.out
   | false =>
   cases ls with
   | true =>
    have HF:=qH (fm.out [] 8 (by unfold rqR;rw [if_neg AH.out,if_neg th.out,yT.out,if_neg (by rw [nP.out];simp),if_pos pk.out]) _ X ⟨none,0,0,[],rfl,rfl,by omega,CodesOwn.none_ _ _ _,bh⟩);clear gG fG bh vM;go_wp2_with fail
    go_ret2;exact HF.out
   | false =>
    have Ak:=zSd nP.out pk.out;obtain ⟨l,hl⟩:∃l,Ws.map (zMN F.L)=l:=⟨_,rfl⟩
    have hll:l.length=Ws.length:=by rw [←hl,List.length_map]
    have yj:Bits X A1 Ws.length l:=by
     rw [hl] at fG;refine ⟨fG.els (fun _=>rfl) (by omega) (by omega),fun x hx=>?_⟩;rw [←hl] at hx;obtain ⟨y,_,rfl⟩:=List.mem_map.1 hx;exact zUO (by rw [eT.out];omega) y
    rw [hl,eT.out] at Ak;have GM:=qH Ak;have kW:=qH (show zGi F.L S=l by unfold zGi;rw [yT.out,hl]);obtain ⟨n1,mt⟩:∃n,Ws.length=n:=⟨_,rfl⟩
    rw [mt] at yj hWl hll ⊢;have eR:=qH hll;have po:=qH (zHO F.n A1 n1 c1 l X yj pT (by omega) (fun x hx=>by have:=Ak x hx;omega))
    have Gz:=qH (show ∀r,(if zFR l=false then (([]:List (List Lt)),(3:Int)) else if 12 < crS F.L S∨400 < (zBS F.L S).length then ([],7) else if zAZ F.L F.re F.lo (crS F.L S) (zBS F.L S) (2 ^ crS F.L S)=[] then ([],3) else (zAZ F.L F.re F.lo (crS F.L S) (zBS F.L S) (2 ^ crS F.L S),0))=r→rqR F.L F.re F.lo S=r by
     intro r hr
     unfold rqR
     rw [if_neg AH.out,if_neg th.out,yT.out,if_neg (by rw [nP.out];simp),if_neg (by rw [pk.out];simp),kW.out]
     exact hr)
    clear gG Ak hl mt hll fG;go_wp2_with fail
    clear c4 c5;refine po.out.mono ?_;intro e X2 hcp;rcases hcp with ⟨hcb,g2,rfl,gQ,aw⟩ | ⟨hcb,rfl,aw⟩
    ·have uw:=zAa bh aw bh.size;have uk:=vM.below aw vM.lt;have yi:=yj.below aw;have GX:=qH hcb;have AM:=qH (show ∀j,j < F.n+2→∃v:Nat,(zCt F.n l)[j]? = some (v:Int)∧v≤100000 from fun j hj=>⟨_,zFS F.n l hj,by have:=zLM l (j:Int);have:=eR.out;omega⟩);have DL:=qH (zLU F.n A1 n1 c1 l g2 (zCt F.n l) X2 yi ⟨gQ.blk,Nat.zero_le _,gQ.len⟩ pT (by omega) (fun x hx=>by have:=GM.out x hx;omega) AM.out);obtain ⟨L,hL⟩:∃L,zAT (zCt F.n l) l=L:=⟨_,rfl⟩
     obtain ⟨cr,hcr⟩:∃c,zFQ l / 2=c:=⟨_,rfl⟩
     rw [hL] at DL;rw [hcr];have iI:=qH (show zBS F.L S=L∧crS F.L S=cr by unfold zBS crS;rw [kW.out,eT.out];exact ⟨hL,hcr⟩)
     have DH:=qH (show ∀i,i < L.length→isC (la L i)=true→1≤(la L i).id∧(la L i).id≤cr from fun i hi hc=>by
      rw [←hL] at hi hc ⊢
      obtain ⟨x,hx,h0,he⟩:=zQk hi hc
      have h1:=zSe GX.out hx h0
      have h2:=GM.out x hx
      rw [hcr] at h1
      rw [he];omega)
     have Gy:=qH (show ∀r,(if 12 < cr∨400 < L.length then (([]:List (List Lt)),(7:Int)) else if zAZ F.L F.re F.lo cr L (2 ^ cr)=[] then ([],3) else (zAZ F.L F.re F.lo cr L (2 ^ cr),0))=r→rqR F.L F.re F.lo S=r by
      intro r hr
      refine Gz.out r ?_
      rw [if_neg (by rw [GX.out];simp),iI.out.1,iI.out.2]
      exact hr)
     have hcb2:cr≤20001:=by rw [←hcr];have:=zLN l;have:=eR.out;omega
     clear hcb gQ aw yj yi hL hcr bh vM po;go_wp2_with fail
     refine DL.out.mono ?_;rintro e X3 ⟨B3,m3,d3,rfl,oR,aH⟩;have Fh:L.length=m3:=oR.len;have bH:=zAa uw aH uw.size;have uj:=uk.below aH uk.lt;have tU:m3≤1000000:=by
      have h8:=zNS (zCt F.n l) l;have h7:=eR.out;have h9:=iI.out.1;unfold zBS at h9;rw [kW.out,eT.out] at h9;rw [h9] at h8;omega
     have hbl:=(Below.refl X3.heap.size X3).alloc (Nat.le_refl _) (.cells #[.int .i64 (F.n:Int),.slice B3 m3 d3] 55);have nb:Blk (X3.alloc (.cells #[.int .i64 (F.n:Int),.slice B3 m3 d3] 55)) X3.heap.size 55 #[.int .i64 (F.n:Int),.slice B3 m3 d3]:=Blk.new _ _ _;have CC:=oR.lets.below hbl;have jl:=zAa bH hbl bH.size;have pU:=uj.below hbl uj.lt;clear oR aH uw uk bH uj hbl DL;go_upto_region 17 with fail
     generalize X3.alloc (.cells #[.int .i64 (F.n:Int),.slice B3 m3 d3] 55)=X4 at nb CC jl pU ⊢;generalize X3.heap.size=a13 at nb ⊢;have u1:X4.cell? ⟨a13,1,none⟩=some (.slice B3 m3 d3):=(nb.cell 1).trans rfl;by_cases h7:12 < cr∨400 < L.length
     ·have HF:=qH (fm.out [] 7 (Gy.out _ (if_pos h7)) _ X4 ⟨none,0,0,[],rfl,rfl,by omega,CodesOwn.none_ _ _ _,jl⟩);clear nb CC jl pU;by_cases h8:12 < cr
      ·have i0:(12:Int) < (cr:Int):=by omega
       clear h7 u1;go_wp2_with fail
       go_ret2;exact HF.out
      ·have i0:¬(12:Int) < (cr:Int):=by omega
       have i1:(400:Int) < (m3:Int):=by omega
       clear h7;go_wp2_with fail
       go_ret2;exact HF.out
     ·have i0:¬(12:Int) < (cr:Int):=by omega
      have i1:¬(400:Int) < (m3:Int):=by omega
      have oJ:cr≤12:=by omega
      obtain ⟨N,hN⟩:∃N,2 ^ cr=N:=⟨_,rfl⟩
      have hN4:N≤4096:=by rw [←hN];exact Nat.le_trans (Nat.pow_le_pow_right (by omega) oJ) (by decide)
      have Gx:=qH (show ∀r,(if zAZ F.L F.re F.lo cr L N=[] then (([]:List (List Lt)),(3:Int)) else (zAZ F.L F.re F.lo cr L N,0))=r→rqR F.L F.re F.lo S=r by
       intro r hr
       refine Gy.out r ?_
       rw [if_neg h7,hN]
       exact hr)
      have HL3:=qH Fh;have AA:=qH (zSg oJ hN);clear h7 hN;go_upto_region 19 with fail
      clear i0 i1;go_upto_region 20 with fail -- B
      go_wp2_with fail -- A
      first
       | rw [AA.out.1]
       | rw [AA.out.2.1]
       | rw [AA.out.2.2.1]
       | rw [AA.out.2.2.2]
      have Cb:w.heap.size≤X4.heap.size:=jl.size;have DF:=qH (show ∀i,i < m3→isC (la L i)=true→1≤(la L i).id∧(la L i).id≤cr from fun i hi hc=>DH.out i (by rw [HL3.out];exact hi) hc);clear Fh u1;go_loopw [14,70] (fun pK v70 wv=>∃(nu m:Nat) (X:World) (A':Option Addr) (c':Nat) (Es:List Ce),X=wv∧nu≤N∧m≤nu∧v70=.int .i64 nu∧pK=.slice A' m c'∧CodesOwn X X4.heap.size (F.n:Int) A' m c' Es∧Below X4.heap.size X4 X∧Hid (List.map (fun x:Ce=>x.L) Es=zAZ F.L F.re F.lo cr L nu)) (fun _ v70 _=>N-(intOf v70).toNat)
      case atStart=>exact ⟨0,0,_,none,0,[],rfl,by omega,by omega,rfl,rfl,CodesOwn.none_ _ _ _,Below.refl _ _,qH rfl⟩
      case round =>
       obtain ⟨nu,m,X5,A',c',Es,qc,hnu,hmn,rfl,rfl,uO,aw,HS⟩:=hrel;subst qc;by_cases hlt:nu < N
       ·have j0:(0:Int)≤(nu:Int):=by omega
        have j1:(nu:Int) < (N:Int):=by omega
        have jD:=nb.below aw nb.lt;have fO:=pU.below aw pU.lt;have Ff:=CC.below aw;have jk:=zAa jl aw jl.size;obtain ⟨M,hM⟩:∃M,zCE cr nu L=M:=⟨_,rfl⟩
        obtain ⟨p,hp⟩:∃p,zCs F.L F.re F.lo (F.L.length:Int) M=p:=⟨_,rfl⟩
        have yW:=qH (zQl (K:=(F.n:Int)) (d:=d3) hM X5 Ff tU oJ (by omega) DF.out);have jO:=qH (fun wx (hx:Fgs wx F.A F.n F.L) (B:Option Addr) (q r:Nat) (hy:Lets wx B q M)=>zGf (d:=r) hp wx hx HHC.out hy);rw [eT.out] at jO;have AU:=qH (fun (h:p=true)=>zLV (F:=F.L) (re:=F.re) (lo:=F.lo) (cr:=cr) (L:=L) (m:=nu) (by rw [hM,hp,h]));have tt:=qH (fun (h:p=false)=>zNY (F:=F.L) (re:=F.re) (lo:=F.lo) (cr:=cr) (L:=L) (m:=nu) (by rw [hM,hp,h]));rw [hM] at AU;obtain ⟨u0,u1⟩:=cQ2 jD;have xx:nu+1≤N:=hlt;have tW:m+1≤nu+1:=by omega
        have mu:m+1≤1000000:=by omega
        have db:m≤nu+1:=by omega
        clear hM hp Ff jD;go_wp2_with fail
        clear u0 u1;refine yW.out.mono ?_;rintro e X6 ⟨B5,m5,d5,rfl,xZ,aH⟩;have Ft:=uO.below aH;have mw:=fO.below aH fO.lt;have up:=zAa jk aH jk.size;have uy:=zAa aw aH aw.size;have hlow:=fun k hk=>(uO.row.lt k hk).2
        have DK:=qH (show m5≤d5 from xZ.row.cap);have vr:=qH (fun k (hk:blk B5=some k)=>(show k < X6.heap.size∧blk A'≠some k from ⟨(xZ.row.lt k hk).2,fun e2=>by have h1:=(xZ.row.lt k hk).1;have h2:=hlow k e2;omega⟩));have hbl:=(Below.refl X6.heap.size X6).alloc (Nat.le_refl _) (.cells #[.int .i64 (F.n:Int),.slice B5 m5 d5] 55);have na:Blk (X6.alloc (.cells #[.int .i64 (F.n:Int),.slice B5 m5 d5] 55)) X6.heap.size 55 #[.int .i64 (F.n:Int),.slice B5 m5 d5]:=Blk.new _ _ _;have CJ:=Ft.below hbl;have BX:=mw.below hbl mw.lt;have uo:=zAa up hbl up.size;have p5:=zAa uy hbl uy.size;have Aj:=xZ.lets.below hbl;have xk:X6.heap.size≤(X6.alloc (.cells #[.int .i64 (F.n:Int),.slice B5 m5 d5] 55)).heap.size:=hbl.size;clear uO fO jk aw xZ aH Ft mw up uy hlow hbl yW;go_upto_region 24 with fail
        have mP:=qH (fun k (hk:blk B5=some k)=>(show k < (X6.alloc (.cells #[.int .i64 (F.n:Int),.slice B5 m5 d5] 55)).heap.size∧blk A'≠some k from ⟨Nat.lt_of_lt_of_le (vr.out k hk).1 xk,(vr.out k hk).2⟩));clear vr xk;generalize X6.alloc (.cells #[.int .i64 (F.n:Int),.slice B5 m5 d5] 55)=X7 at na CJ BX uo p5 Aj mP ⊢;generalize X6.heap.size=a16 at na ⊢;obtain ⟨u0,u1⟩:=cQ2 na;obtain ⟨v0,v1,v2⟩:=cQ3 BX;clear BX;go_wp2_with fail
        clear u0 u1 v0 v1 v2;refine (jO.out X7 (HA.out.below uo) B5 m5 d5 Aj).mono ?_;rintro e X8 ⟨rfl,cm⟩;have BM:=na.below cm na.lt;have ye:=CJ.below cm;have CB:=Aj.below cm;have pZ:=zAa p5 cm p5.size;have y9:=qH (fun k (hk:blk B5=some k)=>(show k < X8.heap.size∧blk A'≠some k from ⟨Nat.lt_of_lt_of_le (mP.out k hk).1 cm.size,(mP.out k hk).2⟩));clear na CJ Aj p5 uo cm mP jO
        cases p with
        | false =>
         have HF:=qH (show List.map (fun x:Ce=>x.L) Es=zAZ F.L F.re F.lo cr L (nu+1) by rw [tt.out rfl];exact HS.out);clear BM CB;go_wp2_with fail
         go_roundw
         case rel=>exact ⟨nu+1,m,_,A',c',Es,rfl,xx,db,by go_num,rfl,ye,pZ,HF⟩
         case measure=>simp [intOf];omega
        | true =>
         have HF:=qH (show List.map (fun x:Ce=>x.L) (Es++[(⟨M,B5,m5,d5⟩:Ce)])=zAZ F.L F.re F.lo cr L (nu+1) by rw [AU.out rfl,List.map_append,HS.out];rfl);obtain ⟨u0,u1⟩:=cQ2 BM;have vE:X4.heap.size≤X8.heap.size:=pZ.size;clear BM;go_upto_region 26 with (at_builtin;refine zEV ?_)
         refine qH ?_;refine zXr (base:=X4.heap.size) (K:=(F.n:Int)) (A:=A') (n:=m) (c:=c') (Es:=Es) (y:=⟨M,B5,m5,d5⟩) (N:=m+1) rfl (.tmp 80) (.tmp 82) ?_ ?_ ?_ ?_ ?_ ?_ ?_ ?_
         ·rfl
         ·exact ye.row
         ·rfl
         ·rfl
         ·rfl
         ·exact mu
         ·exact vE
         intro A2 c2 w9 hR9 cl ck;have hE9:=ye.push ⟨M,B5,m5,d5⟩ ⟨CB,y9.out⟩ DK.out hR9 cl ck;have aS:=pZ.trans (ye.row.belowOf cl vE);clear ye CB pZ hR9 cl ck u0 u1;go_wp2_with fail
         go_roundw
         case rel=>exact ⟨nu+1,m+1,_,A2,c2,_,rfl,xx,tW,by go_num,rfl,hE9,aS,HF⟩
         case measure=>simp [intOf];omega
       ·have j1:¬(nu:Int) < (N:Int):=by omega
        have hin:nu=N:=by omega
        have hlen:=uO.len;have vS:=HS.out;rw [hin] at vS;have jk:=zAa jl aw jl.size;by_cases hm0:m=0
        ·have hes:Es=[]:=List.length_eq_zero_iff.1 (by omega);have HF:=qH (fm.out [] 3 (Gx.out _ (if_pos (by rw [←vS,hes];rfl))) _ X5 ⟨none,0,0,[],rfl,rfl,by omega,CodesOwn.none_ _ _ _,jk⟩);subst hm0;clear uO aw jk vS hlen hin hlt HS;go_wp2_with fail
         go_ret2;exact HF.out
        ·have i5:((m:Int)==0)=false:=by simp;omega
         have HF:=qH (fm.out (List.map (fun x:Ce=>x.L) Es) 0 (Gx.out _ (by rw [if_neg (by rw [←vS];intro h;have:=congrArg List.length h;simp at this;rw [this] at hlen;simp at hlen;omega),←vS])) _ X5 ⟨A',m,c',Es,rfl,rfl,by omega,uO.mono Cb,jk⟩);clear uO aw jk vS hlen hin hlt HS hm0;go_wp2_with fail
         go_ret2;exact HF.out
    ·have HF:=qH (fm.out [] 3 (Gz.out _ (if_pos hcb)) _ X2 ⟨none,0,0,[],rfl,rfl,by omega,CodesOwn.none_ _ _ _,zAa bh aw bh.size⟩);clear hcb aw yj bh vM;go_wp2_with fail
     go_ret2;exact HF.out
 ·have HF:=qH (fm.out [] E (by unfold rqR;rw [HE.out,if_pos h0]) _ Y2 ⟨none,0,0,[],rfl,rfl,by omega,CodesOwn.none_ _ _ _,al⟩);have k0:(E != 0)=true:=by simpa using h0
  clear hcs h0 al bt;go_wp2_with fail
  go_ret2;exact HF.out
theorem zQm (A:Option Addr) (n c:Nat) (re lo:Int) (w:World) :
  Calls Tryz.prog 15 #[frV A n c re lo] w fun e w'=>e=.returned (.bool (decide (n≤60)))∧Below w.heap.size w w':=by
 have ah:Below w.heap.size w (w.alloc (.cells #[.slice A n c,.int .i64 re,.int .i64 lo] 24)):=(Below.refl _ _).alloc (Nat.le_refl _) _;by_cases h:n≤60
 ·have i0:(n:Int)≤60:=by omega
  rw [decide_eq_true h];clear h;go_enter Tryz.func15,Tryz.ntmps15;go_wp2_with fail
  go_ret;exact ⟨rfl,ah⟩
 ·have i0:¬(n:Int)≤60:=by omega
  rw [decide_eq_false h];clear h;go_enter Tryz.func15,Tryz.ntmps15;go_wp2_with fail
  go_ret;exact ⟨rfl,ah⟩
def spB (x y:Sp):Bool:=sgB x.s y.s&&x.over==y.over
theorem zQn {x y:Sp}:spB x y=true↔x=y:=by
 obtain ⟨s,o⟩:=x;obtain ⟨s',o'⟩:=y;unfold spB;simp only [Bool.and_eq_true,beq_iff_eq,zCC,Sp.mk.injEq]
set_option maxRecDepth 100000 in
theorem zXs (m:Nat) (x y:Sg) (w:World):(Op.equalIn (m+2) 29 (sgV x) (sgV y)).run Tryz.prog w=.ok (sgB x y) w:=by
 have u3:=Tryz.underlying3;have a3:=Tryz.isAgg3;have z3:=Tryz.sizeOf3;have u4:=Tryz.underlying4;have a4:=Tryz.isAgg4;have z4:=Tryz.sizeOf4;have hS:Tryz.prog.underlying 29=some (.struct (Tryz.prog.fieldsOf 29)):=by kernel_rfl
 have hp:Tryz.prog.stoodInHeld 29=false:=by kernel_rfl
 rw [run_equalIn_agg w (m+1) 29 _ _ hS hp];simp only [Program.fieldsOf,Tryz.underlying29];go_simp
 unfold sgB;by_cases h1:x.f=y.f<;>by_cases h2:x.l=y.l<;>by_cases h3:x.far=y.far<;>by_cases h4:x.pc=y.pc<;>simp [h1,h2,h3,h4]
set_option maxRecDepth 100000 in
theorem eqSp (x y:Sp) (w:World):(Op.equalIn 10000 86 (spV x) (spV y)).run Tryz.prog w=.ok (spB x y) w:=by
 have u4:=Tryz.underlying4;have a4:=Tryz.isAgg4;have z4:=Tryz.sizeOf4;have a5:=Tryz.isAgg29;have z5:=Tryz.sizeOf29;have hS:Tryz.prog.underlying 86=some (.struct (Tryz.prog.fieldsOf 86)):=by kernel_rfl
 have hp:Tryz.prog.stoodInHeld 86=false:=by kernel_rfl
 have hq:=zXs 9997 x.s y.s;rw [show (10000:Nat)=9999+1 from rfl,run_equalIn_agg w 9999 86 _ _ hS hp];simp only [Program.fieldsOf,Tryz.underlying86];go_simp
 unfold spB
 cases sgB x.s y.s<;>by_cases h2:x.over=y.over<;>simp [h2]
set_option maxHeartbeats 6400000 in
set_option maxRecDepth 100000 in
theorem zLW (o p:Og) (aA:Option Addr) (an ac:Nat) (bA_:Option Addr) (bn bc:Nat) (w:World) (h1:Stps w aA an o.path) (h2:Stps w bA_ bn p.path) :
  Calls Tryz.prog 19 #[opV o aA an ac,opV p bA_ bn bc] w fun e w'=>e=.returned (.bool (decide (o=p)))∧Below w.heap.size w w':=by
 obtain ⟨ak,af,cO,aP,av⟩:=o;obtain ⟨bk,bf,pd,bP,bv⟩:=p;simp only at h1 h2;have ah:Below w.heap.size w ((w.alloc (.cells #[.int .i64 ak,.int .i64 af,.int .i64 cO.f,.int .i64 cO.l,.bool cO.far,.int .i64 cO.pc,.slice aA an ac,.bool av] 32)).alloc (.cells #[.int .i64 bk,.int .i64 bf,.int .i64 pd.f,.int .i64 pd.l,.bool pd.far,.int .i64 pd.pc,.slice bA_ bn bc,.bool bv] 32)):=((Below.refl _ _).alloc (Nat.le_refl _) _).alloc (by simp) _
 have hR:=qH (show ∀q:Bool,(q=true↔ak=bk∧af=bf∧cO=pd∧aP=bP∧av=bv)→decide ((⟨ak,af,cO,aP,av⟩:Og)=⟨bk,bf,pd,bP,bv⟩)=q from fun q hq=>by
  rw [Bool.eq_iff_iff,decide_eq_true_eq,hq];simp)
 obtain ⟨dd,hdd⟩:∃q,decide ((⟨ak,af,cO,aP,av⟩:Og)=⟨bk,bf,pd,bP,bv⟩)=q:=⟨_,rfl⟩
 rw [hdd];have hR:=qH (fun q hq=>hdd.symm.trans (hR.out q hq));clear hdd;by_cases e1:ak=bk
 ·subst e1;by_cases e2:af=bf
  ·subst e2;have hq:=zVz cO pd;by_cases e3:cO=pd
   ·subst e3;rw [zCC.2 rfl] at hq;by_cases e4:av=bv
    ·subst e4;by_cases e5:an=bn
     ·subst e5;have hka:Blk ((w.alloc (.cells #[.int .i64 ak,.int .i64 af,.int .i64 cO.f,.int .i64 cO.l,.bool cO.far,.int .i64 cO.pc,.slice aA an ac,.bool av] 32)).alloc (.cells #[.int .i64 ak,.int .i64 af,.int .i64 cO.f,.int .i64 cO.l,.bool cO.far,.int .i64 cO.pc,.slice bA_ an bc,.bool av] 32)) w.heap.size 32 #[.int .i64 ak,.int .i64 af,.int .i64 cO.f,.int .i64 cO.l,.bool cO.far,.int .i64 cO.pc,.slice aA an ac,.bool av]:=(Blk.new w _ _).alloc _;have hkb:Blk ((w.alloc (.cells #[.int .i64 ak,.int .i64 af,.int .i64 cO.f,.int .i64 cO.l,.bool cO.far,.int .i64 cO.pc,.slice aA an ac,.bool av] 32)).alloc (.cells #[.int .i64 ak,.int .i64 af,.int .i64 cO.f,.int .i64 cO.l,.bool cO.far,.int .i64 cO.pc,.slice bA_ an bc,.bool av] 32)) (w.heap.size+1) 32 #[.int .i64 ak,.int .i64 af,.int .i64 cO.f,.int .i64 cO.l,.bool cO.far,.int .i64 cO.pc,.slice bA_ an bc,.bool av]:=heap_alloc2_new w _ _;go_enter Tryz.func19,Tryz.ntmps19;go_upto_region 3 with fail
      generalize ((w.alloc (.cells #[.int .i64 ak,.int .i64 af,.int .i64 cO.f,.int .i64 cO.l,.bool cO.far,.int .i64 cO.pc,.slice aA an ac,.bool av] 32)).alloc (.cells #[.int .i64 ak,.int .i64 af,.int .i64 cO.f,.int .i64 cO.l,.bool cO.far,.int .i64 cO.pc,.slice bA_ an bc,.bool av] 32))=Y at ah hka hkb ⊢;have H1:=qH (h1.below ah);have H2:=qH (h2.below ah);have HL:=qH (And.intro h1.len h2.len);have hle:=h1.le;clear h1 h2;go_wp2_with fail
      go_loopw [5] (fun v5 wv=>∃(i:Nat) (X:World),X=wv∧i≤an∧v5=.int .i64 i∧Below Y.heap.size Y X∧Hid (∀j,j < i→pa aP j=pa bP j)) (fun v5 _=>an-(intOf v5).toNat)
      case atStart=>exact ⟨0,_,rfl,by omega,rfl,Below.refl _ _,qH (fun j hj=>by omega)⟩
      case round =>
       obtain ⟨i,X,hX,hi,rfl,hb,HS⟩:=hrel;subst hX;have hbw:=zAa ah hb ah.size;have c6:X.cell? ⟨w.heap.size,6,none⟩=some (.slice aA an ac):=((hka.below hb hka.lt).cell 6).trans rfl;have d6:X.cell? ⟨w.heap.size+1,6,none⟩=some (.slice bA_ an bc):=((hkb.below hb hkb.lt).cell 6).trans rfl;by_cases hlt:i < an
       ·have j0:(0:Int)≤(i:Int):=by omega
        have j1:(i:Int) < (an:Int):=by omega
        obtain ⟨g1,o1,rfl,_,⟨x0,x1,x2,x3,x4⟩,_⟩:=(H1.out.below hb).at_ hlt;obtain ⟨g2,o2,rfl,_,⟨y0,y1,y2,y3,y4⟩,_⟩:=(H2.out.below hb).at_ hlt;have hqs:=eqSp (pa aP i) (pa bP i);have nP:=qH (fun q=>zAf hb q);have qB:=qH (fun q=>zAf hbw q);by_cases he:pa aP i=pa bP i
        ·rw [zQn.2 he] at hqs
         have fM:=qH (show ∀j,j < i+1→pa aP j=pa bP j from fun j hj=>by
          rcases Nat.decEq j i with e | e
          ·exact HS.out j (by omega)
          ·rw [e];exact he)
         clear he hb hbw;go_wp2_with fail
         go_quiet (fail)
         go_wp2_with fail
         go_roundw
         case rel=>exact ⟨i+1,_,rfl,by omega,by go_num,nP.out _,fM⟩
         case measure=>simp [intOf];omega
        ·rw [show spB (pa aP i) (pa bP i)=false by cases h:spB (pa aP i) (pa bP i) with | false=>rfl | true=>exact absurd (zQn.1 h) he] at hqs;have HF:=qH (hR.out false ⟨fun h=>(by cases h),fun h=>absurd (by rw [h.2.2.2.1]) he⟩);clear he hb hbw;go_wp2_with fail
         go_quiet (fail)
         go_wp2_with fail
         go_ret;exact ⟨by rw [HF.out];rfl,qB.out _⟩
       ·have j1:¬(i:Int) < (an:Int):=by omega
        have Cp:aP=bP:=List.ext_getElem (by rw [HL.out.1,HL.out.2]) (fun j h3 h4=>by
         have h5:=HS.out j (by rw [HL.out.1] at h3;omega)
         have h6:=zCG h3
         have h7:=zCG h4
         rw [List.getElem?_eq_getElem h3] at h6
         rw [List.getElem?_eq_getElem h4] at h7
         injection h6 with h6
         injection h7 with h7
         rw [h6,h7,h5])
        have HF:=qH (hR.out true (by simp [Cp]));clear hb hlt;go_wp2_with fail
        go_ret;exact ⟨by rw [HF.out];rfl,hbw⟩
     ·have k:((an:Int) != (bn:Int))=true:=by simp;omega
      have HF:=qH (hR.out false ⟨fun h=>(by cases h),fun h=>absurd (by rw [←h1.len,←h2.len,h.2.2.2.1]) e5⟩);clear e5;go_enter Tryz.func19,Tryz.ntmps19;go_wp2_with fail
      go_ret;exact ⟨by rw [HF.out];rfl,ah⟩
    ·have HF:=qH (hR.out false ⟨fun h=>(by cases h),fun h=>absurd h.2.2.2.2 e4⟩)
     cases av<;>cases bv<;>first
      | exact absurd rfl e4
      | (clear e4
         go_enter Tryz.func19,Tryz.ntmps19
         go_wp2_with fail
         go_ret
         exact ⟨by rw [HF.out];rfl,ah⟩)
   ·rw [show sgB cO pd=false by cases h:sgB cO pd with | false=>rfl | true=>exact absurd (zCC.1 h) e3] at hq;have HF:=qH (hR.out false ⟨fun h=>(by cases h),fun h=>absurd h.2.2.1 e3⟩);clear e3;go_enter Tryz.func19,Tryz.ntmps19;go_wp2_with fail
    go_ret;exact ⟨by rw [HF.out];rfl,ah⟩
  ·have k:(af != bf)=true:=by simpa using e2
   have HF:=qH (hR.out false ⟨fun h=>(by cases h),fun h=>absurd h.2.1 e2⟩);clear e2;go_enter Tryz.func19,Tryz.ntmps19;go_wp2_with fail
   go_ret;exact ⟨by rw [HF.out];rfl,ah⟩
 ·have k:(ak != bk)=true:=by simpa using e1
  have HF:=qH (hR.out false ⟨fun h=>(by cases h),fun h=>absurd h.1 e1⟩);clear e1;go_enter Tryz.func19,Tryz.ntmps19;go_wp2_with fail
  go_ret;exact ⟨by rw [HF.out];rfl,ah⟩
theorem zQo {o p:Og} {b:Bool} (h:decide (o=p)=b) (A1:Option Addr) (n1 c1:Nat) (A2:Option Addr) (n2 c2:Nat) (w:World) (h1:Stps w A1 n1 o.path) (h2:Stps w A2 n2 p.path) :
  Calls Tryz.prog 19 #[opV o A1 n1 c1,opV p A2 n2 c2] w fun e w'=>e=.returned (.bool b)∧Below w.heap.size w w':=by
 subst h;exact zLW o p A1 n1 c1 A2 n2 c2 w h1 h2
def ogs (Es:List Oe):List Og:=Es.map fun e=>e.o
set_option maxHeartbeats 6400000 in
set_option maxRecDepth 100000 in
theorem zKE (A:Option Addr) (n c:Nat) (Es:List Oe) (B:Option Addr) (m d:Nat) (Ds:List Oe) (w:World) (hA:Oprs w A n Es) (hB:Oprs w B m Ds) :
  Calls Tryz.prog 27 #[.slice A n c,.slice B m d] w fun e w'=>e=.returned (.bool (decide (ogs Es=ogs Ds)))∧Below w.heap.size w w':=by
 have hle:=hA.le;have hR:=qH (show ∀q:Bool,(q=true↔ogs Es=ogs Ds)→decide (ogs Es=ogs Ds)=q from fun q hq=>by rw [Bool.eq_iff_iff,decide_eq_true_eq,hq]);obtain ⟨dd,hdd⟩:∃q,decide (ogs Es=ogs Ds)=q:=⟨_,rfl⟩
 rw [hdd];have hR:=qH (fun q hq=>hdd.symm.trans (hR.out q hq));have AO:=qH hA.len;have DA:=qH hB.len;clear hdd;by_cases hnm:n=m
 ·subst hnm;go_enter Tryz.func27,Tryz.ntmps27;go_wp2_with fail
  go_loopw [5] (fun v5 wv=>∃(i:Nat) (X:World),X=wv∧i≤n∧v5=.int .i64 i∧Below w.heap.size w X∧Hid (∀j,j < i→(oa Es j).o=(oa Ds j).o)) (fun v5 _=>n-(intOf v5).toNat)
  case atStart=>exact ⟨0,_,rfl,by omega,rfl,Below.refl _ _,qH (fun j hj=>by omega)⟩
  case round =>
   obtain ⟨i,X,hX,hi,rfl,hb,HS⟩:=hrel;subst hX;by_cases hlt:i < n
   ·have j0:(0:Int)≤(i:Int):=by omega
    have j1:(i:Int) < (n:Int):=by omega
    obtain ⟨g1,o1,rfl,_,⟨x0,x1,x2,x3,x4,x5,x6,x7⟩,xL⟩:=(hA.below hb).at_ hlt;obtain ⟨g2,o2,rfl,_,⟨y0,y1,y2,y3,y4,y5,y6,y7⟩,xK⟩:=(hB.below hb).at_ hlt;obtain ⟨q,hq⟩:∃q,decide ((oa Es i).o=(oa Ds i).o)=q:=⟨_,rfl⟩
    have te:=qH (zQo hq (oa Es i).A (oa Es i).n (oa Es i).c (oa Ds i).A (oa Ds i).n (oa Ds i).c X.drew (xL.path.below (Below.refl _ _).drew) (xK.path.below (Below.refl _ _).drew))
    have HT:=qH (fun (h:q=true) j (hj:j < i+1)=>(show (oa Es j).o=(oa Ds j).o by
     rcases Nat.decEq j i with e | e
     ·exact HS.out j (by omega)
     ·rw [e];rw [h] at hq;exact of_decide_eq_true hq))
    have HN:=qH (fun (h:q=false)=>(show dd=false from hR.out false ⟨fun h=>(by cases h),fun he=>by
     rw [h] at hq
     have h1:=of_decide_eq_false hq
     have h2:=congrArg (fun l=>l[i]?) he
     simp only [ogs,List.getElem?_map,zBn (L:=Es) (i:=i) (by rw [AO.out];exact hlt),zBn (L:=Ds) (i:=i) (by rw [DA.out];exact hlt),Option.map_some,Option.some.injEq] at h2
     exact absurd h2 h1⟩))
    have hi1:i+1≤n:=hlt;clear xL xK hq;generalize oa Es i=ea at x0 x1 x2 x3 x4 x5 x6 x7 te ⊢;generalize oa Ds i=eb at y0 y1 y2 y3 y4 y5 y6 y7 te ⊢;obtain ⟨⟨k1,f1,⟨gf1,gl1,gr1,gp1⟩,P1,v1⟩,B1,m1,d1⟩:=ea;obtain ⟨⟨k2,f2,⟨gf2,gl2,gr2,gp2⟩,P2,v2⟩,B2,m2,d2⟩:=eb;simp only at x0 x1 x2 x3 x4 x5 x6 x7 y0 y1 y2 y3 y4 y5 y6 y7 te;have B7:=hb.drew;go_upto_region 6 with fail
    go_region_law (first
     | ((go_simp;go_at_call 19;refine te.out.mono ?_;rintro e' wy ⟨rfl,hby⟩)))
    all_goals
     have aS:=zAa B7 hby B7.size;clear x0 x1 x2 x3 x4 x5 x6 x7 y0 y1 y2 y3 y4 y5 y6 y7 hby te hb B7
     cases q with
     | true =>
      have kU:=qH (HT.out rfl);go_wp2_with fail
      go_roundw
      case rel=>exact ⟨i+1,_,rfl,hi1,by go_num,aS,kU⟩
      case measure=>simp [intOf];omega
     | false =>
      have HF:=qH (HN.out rfl);go_wp2_with fail
      go_ret;exact ⟨by rw [HF.out];rfl,aS⟩
   ·have j1:¬(i:Int) < (n:Int):=by omega
    have Cp:ogs Es=ogs Ds:=by
     unfold ogs;refine List.ext_getElem (by rw [List.length_map,List.length_map,AO.out,DA.out]) fun j h3 h4=>?_
     rw [List.length_map] at h3 h4;have h5:=HS.out j (by rw [AO.out] at h3;omega);have h6:=zBn h3;have h7:=zBn h4;rw [List.getElem?_eq_getElem h3] at h6;rw [List.getElem?_eq_getElem h4] at h7;injection h6 with h6
     injection h7 with h7
     rw [List.getElem_map,List.getElem_map,h6,h7,h5]
    have HF:=qH (hR.out true ⟨fun _=>Cp,fun _=>rfl⟩);clear hlt;go_wp2_with fail
    go_ret;exact ⟨by rw [HF.out];rfl,hb⟩
 ·have k:((n:Int) != (m:Int))=true:=by simp;omega
  have HF:=qH (hR.out false ⟨fun h=>(by cases h),fun h=>absurd (by have:=congrArg List.length h;unfold ogs at this;rw [List.length_map,List.length_map,AO.out,DA.out] at this;exact this) hnm⟩);clear hnm;go_enter Tryz.func27,Tryz.ntmps27;go_wp2_with fail
  go_ret;exact ⟨by rw [HF.out];rfl,Below.refl _ _⟩
def zQp (most:Nat) (Es:List Oe):Bool:=((List.range Es.length).all fun i=>!decide (i≤most)||decide ((oa Es i).n≤12))&&decide (Es.length≤most)
theorem zUS {most:Nat} {Es:List Oe} {i:Nat} (hi:i < Es.length) (h1:i≤most) (h2:¬(oa Es i).n≤12):zQp most Es=false:=by
 unfold zQp;have:((List.range Es.length).all fun i=>!decide (i≤most)||decide ((oa Es i).n≤12))=false:=by
  rw [List.all_eq_false];exact ⟨i,List.mem_range.2 hi,by simp [h1,h2]⟩
 rw [this,Bool.false_and]
theorem zSi {most:Nat} {Es:List Oe} {k:Nat} (h:∀i,i < k→(oa Es i).n≤12) (hk:k=Es.length∨most < k):zQp most Es=decide (Es.length≤most):=by
 unfold zQp;have:((List.range Es.length).all fun i=>!decide (i≤most)||decide ((oa Es i).n≤12))=true:=by
  rw [List.all_eq_true];intro i hi;have hi:=List.mem_range.1 hi;by_cases h1:i≤most
  ·have:=h i (by omega);simp [this]
  ·simp [h1]
 rw [this,Bool.true_and]
theorem zJs {most:Nat} {Es:List Oe} (h:zQp most Es=true):Es.length≤most∧∀e∈Es,e.n≤12:=by
 unfold zQp at h;simp only [Bool.and_eq_true,List.all_eq_true,decide_eq_true_eq] at h;refine ⟨h.2,fun e he=>?_⟩;obtain ⟨i,hi⟩:=List.getElem?_of_mem he;have hlt:=(List.getElem?_eq_some_iff.1 hi).1;have:=h.1 i (List.mem_range.2 hlt);have h2:=zBn hlt;rw [hi] at h2;injection h2 with h2
 rw [←h2] at this;simp only [Bool.or_eq_true,Bool.not_eq_true',decide_eq_false_iff_not,decide_eq_true_eq] at this;exact this.resolve_left (by omega)
set_option maxHeartbeats 3200000 in
theorem zUT (A:Option Addr) (n c:Nat) (Es:List Oe) (most:Nat) (w:World) (hA:Oprs w A n Es) (hm:most≤1000) :
  Calls Tryz.prog 21 #[.slice A n c,.int .i64 (most:Int)] w fun e w'=>e=.returned (.bool (zQp most Es))∧Below w.heap.size w w':=by
 have hle:=hA.le;have HL:=qH hA.len;obtain ⟨r,hr⟩:∃r,zQp most Es=r:=⟨_,rfl⟩
 rw [hr];have HR:=qH hr;clear hr;go_enter Tryz.func21,Tryz.ntmps21;go_wp2_with fail
 go_loopw [5] (fun v5 wv=>∃i:Nat,wv=w∧i≤n∧v5=.int .i64 i∧Hid (∀j,j < i→(oa Es j).n≤12)) (fun v5 _=>n-(intOf v5).toNat)
 case atStart=>exact ⟨0,rfl,by omega,rfl,qH (fun j hj=>by omega)⟩
 case round =>
  obtain ⟨i,rfl,hi,rfl,HS⟩:=hrel
  have fin:(¬i < n∨¬i≤most)→Hid ((n≤most∧r=true)∨(¬n≤most∧r=false)):=fun h=>qH (by
   have:=zSi HS.out (k:=i) (most:=most) (by rw [HL.out];omega)
   rw [HR.out,HL.out] at this
   by_cases hq:n≤most
   ·exact .inl ⟨hq,by rw [this,decide_eq_true hq]⟩
   ·exact .inr ⟨hq,by rw [this,decide_eq_false hq]⟩)
  by_cases hlt:i < n
  ·have j0:(0:Int)≤(i:Int):=by omega
   have j1:(i:Int) < (n:Int):=by omega
   by_cases hmo:i≤most
   ·have j2:(i:Int)≤(most:Int):=by omega
    obtain ⟨g,o,rfl,_,⟨x0,x1,x2,x3,x4,x5,x6,x7⟩,_⟩:=hA.at_ hlt;by_cases h12:(oa Es i).n≤12
    ·have j3:¬(12:Int) < ((oa Es i).n:Int):=by omega
     have fM:=qH (show ∀j,j < i+1→(oa Es j).n≤12 from fun j hj=>by
      rcases Nat.decEq j i with e | e
      ·exact HS.out j (by omega)
      ·rw [e];exact h12)
     clear h12 fin hmo;go_wp2_with fail
     go_roundw
     case rel=>exact ⟨i+1,(by trivial),by omega,by go_num,fM⟩
     case measure=>simp [intOf];omega
    ·have j3:(12:Int) < ((oa Es i).n:Int):=by omega
     have HF:=qH (show r=false by rw [←HR.out];exact zUS (by rw [HL.out];exact hlt) hmo h12);clear h12 fin hmo;go_wp2_with fail
     go_ret;exact ⟨by rw [HF.out];rfl,Below.refl _ _⟩
   ·have j2:¬(i:Int)≤(most:Int):=by omega
    have zV:¬n≤most:=by omega
    have j3:¬(n:Int)≤(most:Int):=by omega
    have HF:=qH (show r=false from ((fin (.inr hmo)).out.resolve_left (fun h=>zV h.1)).2);clear fin hmo zV;go_wp2_with fail
    go_ret;exact ⟨by rw [HF.out];rfl,Below.refl _ _⟩
  ·have j1:¬(i:Int) < (n:Int):=by omega
   have HF:=fin (.inl hlt);clear fin hlt;by_cases hq:n≤most
   ·have j3:(n:Int)≤(most:Int):=by omega
    have tq:=qH (show r=true from (HF.out.resolve_right (fun h=>h.1 hq)).2);clear hq HF;go_wp2_with fail
    go_ret;exact ⟨by rw [tq.out];rfl,Below.refl _ _⟩
   ·have j3:¬(n:Int)≤(most:Int):=by omega
    have tq:=qH (show r=false from (HF.out.resolve_left (fun h=>hq h.1)).2);clear hq HF;go_wp2_with fail
    go_ret;exact ⟨by rw [tq.out];rfl,Below.refl _ _⟩
end Go.Proofs.YtlmdfmnbcndhoaaGreatDoor
