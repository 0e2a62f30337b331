/-
  Lemmas, part 37. Conditions: each theorem's own.
-/
import Derived.Test.YtlmdfmnbcndhoaaGreatDoorRi36
namespace Go.Proofs.YtlmdfmnbcndhoaaGreatDoor
open Go.RowKit
theorem zRC {w:World} {base:Nat} {K:Int} (hb:base≤w.heap.size):CodesOwn (w.alloc (.cells #[.int .i64 K,.slice none 0 0] 55)) base K (some ⟨w.heap.size,0,none⟩) 1 1 [⟨[],none,0,0⟩]:=by
 refine ⟨⟨rfl,Nat.le_refl _,fun e=>(by cases e),fun ad ha=>?_⟩,fun e he=>?_,fun e he=>by rw [List.mem_singleton.1 he];exact Nat.le_refl _⟩
 ·injection ha with ha
  subst ha;have hk:=Blk.new w 55 #[.int .i64 K,.slice none 0 0];refine ⟨rfl,hb,by simp,fun j u hu=>?_,fun j hj=>⟨?_,hk.frozen _⟩⟩
  ·rw [Nat.zero_add,hk.cell];simpa [zSD] using hu
  ·rw [Nat.zero_add,hk.cell];rcases (show j=0∨j=1 by omega) with rfl | rfl<;>rfl
 ·rw [List.mem_singleton.1 he];exact ⟨Lets.nil _ _,fun k hk=>by cases hk⟩
theorem zRD {cr N:Nat} (h:cr≤12) (hN:2 ^ cr=N):wrap64 ((2:Int) ^ cr)=(N:Int)∧IntKind.i64.wrap ((2:Int) ^ cr)=(N:Int)∧IntKind.i64.wrap (1*(2:Int) ^ cr)=(N:Int)∧wrap64 (1*(2:Int) ^ cr)=(N:Int):=by
 have hp1:(2:Int) ^ cr=(N:Int):=by rw [←hN];simp
 have hN4:N≤4096:=by rw [←hN];exact Nat.le_trans (Nat.pow_le_pow_right (by omega) h) (by decide)
 have h1:IntKind.i64.wrap (N:Int)=(N:Int):=IntWalk.i64_in _ (by omega);have h2:wrap64 (N:Int)=(N:Int):=by unfold wrap64;omega
 rw [Int.one_mul,hp1];exact ⟨h2,h1,h1,h2⟩
theorem zRE {L:List Fg} {re lo:Int} {S:List UInt8} (h:zAA L re lo S=0):L.length≤40∧S.length≤8000:=⟨(zCR.1 (zBO h).2).1,(zBO h).1⟩
theorem zPH {K:Int} {B:Option Addr} {n d:Nat} {L M:List Lt} {cr nu:Nat} (h:zCB cr nu L=M) (w:World) (hB:Lets w B n L) (hn:n≤1000000) (hcr:cr≤12) (hnu:nu < 4096) (hid:∀i,i < n→isC (la L i)=true→1≤(la L i).id∧(la L i).id≤cr) :
  Calls Tryz.prog 82 #[.agg #[.int .i64 K,.slice B n d],.int .i64 (cr:Int),.int .i64 (nu:Int)] w (zLu w K M):=by
 subst h;exact zKi K B n d L cr nu w hB hn hcr hnu hid
set_option maxHeartbeats 12800000 in
set_option maxRecDepth 100000 in
theorem zFd (F:Fm) (S:List UInt8) (w:World) (hA:Fgs w F.A F.n F.L) (hc:F.n≤F.c) (ht:Tabs w) :
  Calls Tryz.prog 37 #[frV F.A F.n F.c F.re F.lo,.string (bA S)] w (zRz w (F.n:Int) (rqR F.L F.re F.lo S).1 (rqR F.L F.re F.lo S).2):=by
 have hFL:F.L.length=F.n:=hA.len;have hb0:Below w.heap.size w (w.alloc (.cells #[.slice F.A F.n F.c,.int .i64 F.re,.int .i64 F.lo] 24)):=(Below.refl _ _).alloc (Nat.le_refl _) _;have hk0:Blk (w.alloc (.cells #[.slice F.A F.n F.c,.int .i64 F.re,.int .i64 F.lo] 24)) w.heap.size 24 #[.slice F.A F.n F.c,.int .i64 F.re,.int .i64 F.lo]:=Blk.new _ _ _;have HA:=qH hA;have HT:=qH ht;have HFL:=qH hFL;obtain ⟨E,hE⟩:∃E,zAA F.L F.re F.lo S=E:=⟨_,rfl⟩
 have hcs:=zEm F.L F.re F.lo S;rw [hE] at hcs;have HBG:=qH (fun wx (hx:Fgs wx F.A F.n F.L)=>zDb F.A F.n F.c F.L F.re F.lo S wx hx hc);simp only [hE] at HBG;have HE:=qH hE;obtain ⟨⟨TC,TE⟩,hTR⟩:∃x,rqR F.L F.re F.lo S=x:=⟨_,rfl⟩
 rw [hTR];simp only;have GIV:=qH (fun (Cs:List (List Lt)) (er:Int) (hq:rqR F.L F.re F.lo S=(Cs,er)) (e:Ending) (wx:World) (h:zRz w (F.n:Int) Cs er e wx)=>(show zRz w (F.n:Int) TC TE e wx by rw [hTR] at hq;injection hq with h1 h2;subst h1;subst h2;exact h));have HHC:=qH hc;clear hA ht hE hTR hFL hc;go_enter Tryz.func37,Tryz.ntmps37;go_wp2_with fail
 generalize w.alloc (.cells #[.slice F.A F.n F.c,.int .i64 F.re,.int .i64 F.lo] 24)=Y at hb0 hk0 ⊢;refine (HBG.out Y (HA.out.below hb0)).mono ?_;rintro e Y2 ⟨rfl,hb2⟩;have hf2:=hk0.below hb2 hk0.lt;have hb3:=zAa hb0 hb2 hb0.size;clear hk0 hb0 hb2 HBG;by_cases h0:E=0
 ·subst h0;obtain ⟨hF40,hS8⟩:=zRE HE.out;have hn40:F.n≤40:=by rw [←HFL.out];exact hF40
  have HQ0:=qH (show ¬(zAA F.L F.re F.lo S≠0) from fun h=>h HE.out);obtain ⟨v0,v1,v2⟩:=cQ3 hf2;have n0:=zAF S zJa;have hwz:w.heap.size≤Y2.heap.size:=hb3.size;have hwr:w.heap.size < Y2.heap.size:=hf2.lt;clear hcs hF40;by_cases hba:S=zJa
  ·rw [show (S==zJa)=true from by simpa using hba] at n0;have HF:=qH (GIV.out [[]] 0 (by unfold rqR;rw [if_neg HQ0.out,if_pos hba]) _ _ ⟨some ⟨Y2.heap.size,0,none⟩,1,1,[⟨[],none,0,0⟩],rfl,rfl,by omega,zRC (K:=(F.n:Int)) hwz,hb3.alloc hb3.size _⟩);unfold zJa at n0;clear hba hf2 hb3;go_wp2_with fail
   go_ret2;exact HF.out
  ·rw [show (S==zJa)=false from by simpa using hba] at n0;unfold zJa at n0;have HQ1:=qH hba;have hbl:=(Below.refl Y2.heap.size Y2).alloc (Nat.le_refl _) (.cells (rdC F.A F.n F.c F.re F.lo none 0 0 false false) 123);have hb4:=zAa hb3 hbl hb3.size
   have hrx:RX (Y2.alloc (.cells (rdC F.A F.n F.c F.re F.lo none 0 0 false false) 123)) Y2.heap.size F ⟨[],false,false⟩ :=
    ⟨⟨none,0,0,Blk.new _ _ _,Els.nil _ _,Nat.le_refl _,fun k hk=>by cases hk⟩,HA.out.below hb4,fun h0 k hk=>by
     obtain ⟨g,o,e,hg,_⟩:=HA.out.1.2.2 h0
     rw [e] at hk
     injection hk with hk
     have hk':g=k:=hk
     omega⟩
   have hf4:=hf2.below hbl hf2.lt;clear hba hf2 hb3 hbl;go_upto_region 8 with fail
   clear v0 v1 v2 n0;generalize Y2.alloc (.cells (rdC F.A F.n F.c F.re F.lo none 0 0 false false) 123)=Z at hb4 hrx hf4 ⊢;generalize Y2.heap.size=rb at hrx hwz hwr ⊢;have hTX:∀X,Z.grownBy X (some rb)→Below w.heap.size w X:=fun X hg=>zAa hb4 (zBC hg hwz hb4.size) (Nat.le_refl _)
   have HTX:=qH hTX;have HBI:=qH (zLv rb F [] false false S Z hrx (by omega) (fun X hg=>HT.out.below (hTX X hg)));clear hTX hrx hb4;go_wp2_with fail
   refine HBI.out.mono ?_;rintro e X ⟨A1,c1,rfl,hR1,hx1,hg1⟩;have hbX:=HTX.out X hg1;have hfX:=hf4.grown hg1 (fun e=>by injection e;omega);obtain ⟨Ws,hWs⟩:∃x,zAH 32 S=x:=⟨_,rfl⟩
   have hWl:Ws.length≤8001:=by rw [←hWs];have:=zCe S;omega
   rw [hWs] at hR1 hx1 ⊢;rw [Bool.false_or,Bool.false_or] at hx1;have HWS:=qH hWs;obtain ⟨bd,hbd⟩:∃b,zEp Ws=b:=⟨_,rfl⟩
   obtain ⟨ls,hls⟩:∃b,zFC F.L Ws=b:=⟨_,rfl⟩
   rw [hbd,hls] at hx1;have c4:=hx1.bad4.1;have c5:=hx1.lost5;simp only at c4 c5;have HBD:=qH hbd;have HLS:=qH hls;clear hWs hbd hls hg1 hf4 HBI
   cases bd with
   | true =>
    have HF:=qH (GIV.out [] 6 (by unfold rqR;rw [if_neg HQ0.out,if_neg HQ1.out,HWS.out,if_pos HBD.out]) _ X ⟨none,0,0,[],rfl,rfl,by omega,CodesOwn.none_ _ _ _,hbX⟩);clear hx1 hR1 hbX hfX c5;go_wp2_with fail
    go_ret2;exact HF.out
   | false =>
   cases ls with
   | true =>
    have HF:=qH (GIV.out [] 8 (by unfold rqR;rw [if_neg HQ0.out,if_neg HQ1.out,HWS.out,if_neg (by rw [HBD.out];simp),if_pos HLS.out]) _ X ⟨none,0,0,[],rfl,rfl,by omega,CodesOwn.none_ _ _ _,hbX⟩);clear hx1 hR1 hbX hfX;go_wp2_with fail
    go_ret2;exact HF.out
   | false =>
    have hIO:=zRA HBD.out HLS.out;obtain ⟨l,hl⟩:∃l,Ws.map (zMi F.L)=l:=⟨_,rfl⟩
    have hll:l.length=Ws.length:=by rw [←hl,List.length_map]
    have hBi:Bits X A1 Ws.length l:=by
     rw [hl] at hR1;refine ⟨hR1.els (fun _=>rfl) (by omega) (by omega),fun x hx=>?_⟩;rw [←hl] at hx;obtain ⟨y,_,rfl⟩:=List.mem_map.1 hx;exact zUc (by rw [HFL.out];omega) y
    rw [hl,HFL.out] at hIO;have HIO:=qH hIO;have HIT:=qH (show zFU F.L S=l by unfold zFU;rw [HWS.out,hl]);obtain ⟨n1,hn1⟩:∃n,Ws.length=n:=⟨_,rfl⟩
    rw [hn1] at hBi hWl hll ⊢;have HLL:=qH hll;have HCP:=qH (zHC F.n A1 n1 c1 l X hBi hn40 (by omega) (fun x hx=>by have:=hIO x hx;omega))
    have HR5:=qH (show ∀r,(if zFE l=false then (([]:List (List Lt)),(3:Int)) else if 12 < crS F.L S∨400 < (zBQ F.L S).length then ([],7) else if zAY F.L F.re F.lo (crS F.L S) (zBQ F.L S) (2 ^ crS F.L S)=[] then ([],3) else (zAY F.L F.re F.lo (crS F.L S) (zBQ F.L S) (2 ^ crS F.L S),0))=r→rqR F.L F.re F.lo S=r by
     intro r hr
     unfold rqR
     rw [if_neg HQ0.out,if_neg HQ1.out,HWS.out,if_neg (by rw [HBD.out];simp),if_neg (by rw [HLS.out];simp),HIT.out]
     exact hr)
    clear hx1 hIO hl hn1 hll hR1;go_wp2_with fail
    clear c4 c5;refine HCP.out.mono ?_;intro e X2 hcp;rcases hcp with ⟨hcb,g2,rfl,hO2,hb5⟩ | ⟨hcb,rfl,hb5⟩
    ·have hbX2:=zAa hbX hb5 hbX.size;have hfX2:=hfX.below hb5 hfX.lt;have hBi2:=hBi.below hb5;have HCB:=qH hcb;have HMB:=qH (show ∀j,j < F.n+2→∃v:Nat,(zCu F.n l)[j]? = some (v:Int)∧v≤100000 from fun j hj=>⟨_,zFF F.n l hj,by have:=zLo l (j:Int);have:=HLL.out;omega⟩);have HBL:=qH (zLw F.n A1 n1 c1 l g2 (zCu F.n l) X2 hBi2 ⟨hO2.blk,Nat.zero_le _,hO2.len⟩ hn40 (by omega) (fun x hx=>by have:=HIO.out x hx;omega) HMB.out);obtain ⟨L,hL⟩:∃L,zAN (zCu F.n l) l=L:=⟨_,rfl⟩
     obtain ⟨cr,hcr⟩:∃c,zFD l / 2=c:=⟨_,rfl⟩
     rw [hL] at HBL;rw [hcr];have HLE:=qH (show zBQ F.L S=L∧crS F.L S=cr by unfold zBQ crS;rw [HIT.out,HFL.out];exact ⟨hL,hcr⟩)
     have HID:=qH (show ∀i,i < L.length→isC (la L i)=true→1≤(la L i).id∧(la L i).id≤cr from fun i hi hc=>by
      rw [←hL] at hi hc ⊢
      obtain ⟨x,hx,h0,he⟩:=zPG hi hc
      have h1:=zRB HCB.out hx h0
      have h2:=HIO.out x hx
      rw [hcr] at h1
      rw [he];omega)
     have HR6:=qH (show ∀r,(if 12 < cr∨400 < L.length then (([]:List (List Lt)),(7:Int)) else if zAY F.L F.re F.lo cr L (2 ^ cr)=[] then ([],3) else (zAY F.L F.re F.lo cr L (2 ^ cr),0))=r→rqR F.L F.re F.lo S=r by
      intro r hr
      refine HR5.out r ?_
      rw [if_neg (by rw [HCB.out];simp),HLE.out.1,HLE.out.2]
      exact hr)
     have hcb2:cr≤20001:=by rw [←hcr];have:=zLp l;have:=HLL.out;omega
     clear hcb hO2 hb5 hBi hBi2 hL hcr hbX hfX HCP;go_wp2_with fail
     refine HBL.out.mono ?_;rintro e X3 ⟨B3,m3,d3,rfl,hO3,hb6⟩;have hL3:L.length=m3:=hO3.len;have hbX3:=zAa hbX2 hb6 hbX2.size;have hfX3:=hfX2.below hb6 hfX2.lt;have hm3:m3≤1000000:=by
      have h8:=zNq (zCu F.n l) l;have h7:=HLL.out;have h9:=HLE.out.1;unfold zBQ at h9;rw [HIT.out,HFL.out] at h9;rw [h9] at h8;omega
     have hbl:=(Below.refl X3.heap.size X3).alloc (Nat.le_refl _) (.cells #[.int .i64 (F.n:Int),.slice B3 m3 d3] 55);have hk13:Blk (X3.alloc (.cells #[.int .i64 (F.n:Int),.slice B3 m3 d3] 55)) X3.heap.size 55 #[.int .i64 (F.n:Int),.slice B3 m3 d3]:=Blk.new _ _ _;have hL4:=hO3.lets.below hbl;have hbX4:=zAa hbX3 hbl hbX3.size;have hfX4:=hfX3.below hbl hfX3.lt;clear hO3 hb6 hbX2 hfX2 hbX3 hfX3 hbl HBL;go_upto_region 17 with fail
     generalize X3.alloc (.cells #[.int .i64 (F.n:Int),.slice B3 m3 d3] 55)=X4 at hk13 hL4 hbX4 hfX4 ⊢;generalize X3.heap.size=a13 at hk13 ⊢;have u1:X4.cell? ⟨a13,1,none⟩=some (.slice B3 m3 d3):=(hk13.cell 1).trans rfl;by_cases h7:12 < cr∨400 < L.length
     ·have HF:=qH (GIV.out [] 7 (HR6.out _ (if_pos h7)) _ X4 ⟨none,0,0,[],rfl,rfl,by omega,CodesOwn.none_ _ _ _,hbX4⟩);clear hk13 hL4 hbX4 hfX4;by_cases h8:12 < cr
      ·have i0:(12:Int) < (cr:Int):=by omega
       clear h7 u1;go_wp2_with fail
       go_ret2;exact HF.out
      ·have i0:¬(12:Int) < (cr:Int):=by omega
       have i1:(400:Int) < (m3:Int):=by omega
       clear h7;go_wp2_with fail
       go_ret2;exact HF.out
     ·have i0:¬(12:Int) < (cr:Int):=by omega
      have i1:¬(400:Int) < (m3:Int):=by omega
      have hcr12:cr≤12:=by omega
      obtain ⟨N,hN⟩:∃N,2 ^ cr=N:=⟨_,rfl⟩
      have hN4:N≤4096:=by rw [←hN];exact Nat.le_trans (Nat.pow_le_pow_right (by omega) hcr12) (by decide)
      have HR7:=qH (show ∀r,(if zAY F.L F.re F.lo cr L N=[] then (([]:List (List Lt)),(3:Int)) else (zAY F.L F.re F.lo cr L N,0))=r→rqR F.L F.re F.lo S=r by
       intro r hr
       refine HR6.out r ?_
       rw [if_neg h7,hN]
       exact hr)
      have HL3:=qH hL3;have HW1:=qH (zRD hcr12 hN);clear h7 hN;go_upto_region 19 with fail
      clear i0 i1;go_upto_region 20 with fail -- B
      go_wp2_with fail -- A
      first
       | rw [HW1.out.1]
       | rw [HW1.out.2.1]
       | rw [HW1.out.2.2.1]
       | rw [HW1.out.2.2.2]
      have hX4w:w.heap.size≤X4.heap.size:=hbX4.size;have HID2:=qH (show ∀i,i < m3→isC (la L i)=true→1≤(la L i).id∧(la L i).id≤cr from fun i hi hc=>HID.out i (by rw [HL3.out];exact hi) hc);clear hL3 u1;go_loopw [14,70] (fun v14 v70 wv=>∃(nu m:Nat) (X:World) (A':Option Addr) (c':Nat) (Es:List Ce),X=wv∧nu≤N∧m≤nu∧v70=.int .i64 nu∧v14=.slice A' m c'∧CodesOwn X X4.heap.size (F.n:Int) A' m c' Es∧Below X4.heap.size X4 X∧Hid (List.map (fun x:Ce=>x.L) Es=zAY F.L F.re F.lo cr L nu)) (fun _ v70 _=>N-(intOf v70).toNat)
      case atStart=>exact ⟨0,0,_,none,0,[],rfl,by omega,by omega,rfl,rfl,CodesOwn.none_ _ _ _,Below.refl _ _,qH rfl⟩
      case round =>
       obtain ⟨nu,m,X5,A',c',Es,hX5,hnu,hmn,rfl,rfl,hE5,hb5,HS⟩:=hrel;subst hX5;by_cases hlt:nu < N
       ·have j0:(0:Int)≤(nu:Int):=by omega
        have j1:(nu:Int) < (N:Int):=by omega
        have hk5:=hk13.below hb5 hk13.lt;have hf5:=hfX4.below hb5 hfX4.lt;have hL5:=hL4.below hb5;have hbw5:=zAa hbX4 hb5 hbX4.size;obtain ⟨M,hM⟩:∃M,zCB cr nu L=M:=⟨_,rfl⟩
        obtain ⟨p,hp⟩:∃p,zCt F.L F.re F.lo (F.L.length:Int) M=p:=⟨_,rfl⟩
        have HSG:=qH (zPH (K:=(F.n:Int)) (d:=d3) hM X5 hL5 hm3 hcr12 (by omega) HID2.out);have HPO:=qH (fun wx (hx:Fgs wx F.A F.n F.L) (B:Option Addr) (q r:Nat) (hy:Lets wx B q M)=>zFR (d:=r) hp wx hx HHC.out hy);rw [HFL.out] at HPO;have HCY:=qH (fun (h:p=true)=>zLx (F:=F.L) (re:=F.re) (lo:=F.lo) (cr:=cr) (L:=L) (m:=nu) (by rw [hM,hp,h]));have HCN:=qH (fun (h:p=false)=>zNw (F:=F.L) (re:=F.re) (lo:=F.lo) (cr:=cr) (L:=L) (m:=nu) (by rw [hM,hp,h]));rw [hM] at HCY;obtain ⟨u0,u1⟩:=cQ2 hk5;have hnu1:nu+1≤N:=hlt;have hm1:m+1≤nu+1:=by omega
        have hm9:m+1≤1000000:=by omega
        have hm2:m≤nu+1:=by omega
        clear hM hp hL5 hk5;go_wp2_with fail
        clear u0 u1;refine HSG.out.mono ?_;rintro e X6 ⟨B5,m5,d5,rfl,hO6,hb6⟩;have hE6:=hE5.below hb6;have hf6:=hf5.below hb6 hf5.lt;have hbw6:=zAa hbw5 hb6 hbw5.size;have hb64:=zAa hb5 hb6 hb5.size;have hlow:=fun k hk=>(hE5.row.lt k hk).2
        have HCP5:=qH (show m5≤d5 from hO6.row.cap);have HLOW:=qH (fun k (hk:blk B5=some k)=>(show k < X6.heap.size∧blk A'≠some k from ⟨(hO6.row.lt k hk).2,fun e2=>by have h1:=(hO6.row.lt k hk).1;have h2:=hlow k e2;omega⟩));have hbl:=(Below.refl X6.heap.size X6).alloc (Nat.le_refl _) (.cells #[.int .i64 (F.n:Int),.slice B5 m5 d5] 55);have hk16:Blk (X6.alloc (.cells #[.int .i64 (F.n:Int),.slice B5 m5 d5] 55)) X6.heap.size 55 #[.int .i64 (F.n:Int),.slice B5 m5 d5]:=Blk.new _ _ _;have hE7:=hE6.below hbl;have hf7:=hf6.below hbl hf6.lt;have hbw7:=zAa hbw6 hbl hbw6.size;have hb74:=zAa hb64 hbl hb64.size;have hL7:=hO6.lets.below hbl;have hs67:X6.heap.size≤(X6.alloc (.cells #[.int .i64 (F.n:Int),.slice B5 m5 d5] 55)).heap.size:=hbl.size;clear hE5 hf5 hbw5 hb5 hO6 hb6 hE6 hf6 hbw6 hb64 hlow hbl HSG;go_upto_region 24 with fail
        have HLOW2:=qH (fun k (hk:blk B5=some k)=>(show k < (X6.alloc (.cells #[.int .i64 (F.n:Int),.slice B5 m5 d5] 55)).heap.size∧blk A'≠some k from ⟨Nat.lt_of_lt_of_le (HLOW.out k hk).1 hs67,(HLOW.out k hk).2⟩));clear HLOW hs67;generalize X6.alloc (.cells #[.int .i64 (F.n:Int),.slice B5 m5 d5] 55)=X7 at hk16 hE7 hf7 hbw7 hb74 hL7 HLOW2 ⊢;generalize X6.heap.size=a16 at hk16 ⊢;obtain ⟨u0,u1⟩:=cQ2 hk16;obtain ⟨v0,v1,v2⟩:=cQ3 hf7;clear hf7;go_wp2_with fail
        clear u0 u1 v0 v1 v2;refine (HPO.out X7 (HA.out.below hbw7) B5 m5 d5 hL7).mono ?_;rintro e X8 ⟨rfl,hb8⟩;have hk8:=hk16.below hb8 hk16.lt;have hE8:=hE7.below hb8;have hL8:=hL7.below hb8;have hb84:=zAa hb74 hb8 hb74.size;have HLOW3:=qH (fun k (hk:blk B5=some k)=>(show k < X8.heap.size∧blk A'≠some k from ⟨Nat.lt_of_lt_of_le (HLOW2.out k hk).1 hb8.size,(HLOW2.out k hk).2⟩));clear hk16 hE7 hL7 hb74 hbw7 hb8 HLOW2 HPO
        cases p with
        | false =>
         have HF:=qH (show List.map (fun x:Ce=>x.L) Es=zAY F.L F.re F.lo cr L (nu+1) by rw [HCN.out rfl];exact HS.out);clear hk8 hL8;go_wp2_with fail
         go_roundw
         case rel=>exact ⟨nu+1,m,_,A',c',Es,rfl,hnu1,hm2,by go_num,rfl,hE8,hb84,HF⟩
         case measure=>simp [intOf];omega
        | true =>
         have HF:=qH (show List.map (fun x:Ce=>x.L) (Es++[(⟨M,B5,m5,d5⟩:Ce)])=zAY F.L F.re F.lo cr L (nu+1) by rw [HCY.out rfl,List.map_append,HS.out];rfl);obtain ⟨u0,u1⟩:=cQ2 hk8;have hz8:X4.heap.size≤X8.heap.size:=hb84.size;clear hk8;go_upto_region 26 with (at_builtin;refine zEP ?_)
         refine qH ?_;refine zWA (base:=X4.heap.size) (K:=(F.n:Int)) (A:=A') (n:=m) (c:=c') (Es:=Es) (y:=⟨M,B5,m5,d5⟩) (N:=m+1) rfl (.tmp 80) (.tmp 82) ?_ ?_ ?_ ?_ ?_ ?_ ?_ ?_
         ·rfl
         ·exact hE8.row
         ·rfl
         ·rfl
         ·rfl
         ·exact hm9
         ·exact hz8
         intro A2 c2 w9 hR9 hg9 hl9;have hE9:=hE8.push ⟨M,B5,m5,d5⟩ ⟨hL8,HLOW3.out⟩ HCP5.out hR9 hg9 hl9;have hb9:=hb84.trans (hE8.row.belowOf hg9 hz8);clear hE8 hL8 hb84 hR9 hg9 hl9 u0 u1;go_wp2_with fail
         go_roundw
         case rel=>exact ⟨nu+1,m+1,_,A2,c2,_,rfl,hnu1,hm1,by go_num,rfl,hE9,hb9,HF⟩
         case measure=>simp [intOf];omega
       ·have j1:¬(nu:Int) < (N:Int):=by omega
        have hin:nu=N:=by omega
        have hlen:=hE5.len;have hHS:=HS.out;rw [hin] at hHS;have hbw5:=zAa hbX4 hb5 hbX4.size;by_cases hm0:m=0
        ·have hes:Es=[]:=List.length_eq_zero_iff.1 (by omega);have HF:=qH (GIV.out [] 3 (HR7.out _ (if_pos (by rw [←hHS,hes];rfl))) _ X5 ⟨none,0,0,[],rfl,rfl,by omega,CodesOwn.none_ _ _ _,hbw5⟩);subst hm0;clear hE5 hb5 hbw5 hHS hlen hin hlt HS;go_wp2_with fail
         go_ret2;exact HF.out
        ·have i5:((m:Int)==0)=false:=by simp;omega
         have HF:=qH (GIV.out (List.map (fun x:Ce=>x.L) Es) 0 (HR7.out _ (by rw [if_neg (by rw [←hHS];intro h;have:=congrArg List.length h;simp at this;rw [this] at hlen;simp at hlen;omega),←hHS])) _ X5 ⟨A',m,c',Es,rfl,rfl,by omega,hE5.mono hX4w,hbw5⟩);clear hE5 hb5 hbw5 hHS hlen hin hlt HS hm0;go_wp2_with fail
         go_ret2;exact HF.out
    ·have HF:=qH (GIV.out [] 3 (HR5.out _ (if_pos hcb)) _ X2 ⟨none,0,0,[],rfl,rfl,by omega,CodesOwn.none_ _ _ _,zAa hbX hb5 hbX.size⟩);clear hcb hb5 hBi hbX hfX;go_wp2_with fail
     go_ret2;exact HF.out
 ·have HF:=qH (GIV.out [] E (by unfold rqR;rw [HE.out,if_pos h0]) _ Y2 ⟨none,0,0,[],rfl,rfl,by omega,CodesOwn.none_ _ _ _,hb3⟩);have k0:(E != 0)=true:=by simpa using h0
  clear hcs h0 hb3 hf2;go_wp2_with fail
  go_ret2;exact HF.out
theorem zPI (A:Option Addr) (n c:Nat) (re lo:Int) (w:World) :
  Calls Tryz.prog 15 #[frV A n c re lo] w fun e w'=>e=.returned (.bool (decide (n≤60)))∧Below w.heap.size w w':=by
 have hb0:Below w.heap.size w (w.alloc (.cells #[.slice A n c,.int .i64 re,.int .i64 lo] 24)):=(Below.refl _ _).alloc (Nat.le_refl _) _;by_cases h:n≤60
 ·have i0:(n:Int)≤60:=by omega
  rw [decide_eq_true h];clear h;go_enter Tryz.func15,Tryz.ntmps15;go_wp2_with fail
  go_ret;exact ⟨rfl,hb0⟩
 ·have i0:¬(n:Int)≤60:=by omega
  rw [decide_eq_false h];clear h;go_enter Tryz.func15,Tryz.ntmps15;go_wp2_with fail
  go_ret;exact ⟨rfl,hb0⟩
def spB (x y:Sp):Bool:=sgB x.s y.s&&x.over==y.over
theorem zPJ {x y:Sp}:spB x y=true↔x=y:=by
 obtain ⟨s,o⟩:=x;obtain ⟨s',o'⟩:=y;unfold spB;simp only [Bool.and_eq_true,beq_iff_eq,zCA,Sp.mk.injEq]
set_option maxRecDepth 100000 in
theorem zWB (m:Nat) (x y:Sg) (w:World):(Op.equalIn (m+2) 29 (sgV x) (sgV y)).run Tryz.prog w=.ok (sgB x y) w:=by
 have u3:=Tryz.underlying3;have a3:=Tryz.isAgg3;have z3:=Tryz.sizeOf3;have u4:=Tryz.underlying4;have a4:=Tryz.isAgg4;have z4:=Tryz.sizeOf4;have hS:Tryz.prog.underlying 29=some (.struct (Tryz.prog.fieldsOf 29)):=by kernel_rfl
 have hp:Tryz.prog.stoodInHeld 29=false:=by kernel_rfl
 rw [run_equalIn_agg w (m+1) 29 _ _ hS hp];simp only [Program.fieldsOf,Tryz.underlying29];go_simp
 unfold sgB;by_cases h1:x.f=y.f<;>by_cases h2:x.l=y.l<;>by_cases h3:x.far=y.far<;>by_cases h4:x.pc=y.pc<;>simp [h1,h2,h3,h4]
set_option maxRecDepth 100000 in
theorem eqSp (x y:Sp) (w:World):(Op.equalIn 10000 86 (spV x) (spV y)).run Tryz.prog w=.ok (spB x y) w:=by
 have u4:=Tryz.underlying4;have a4:=Tryz.isAgg4;have z4:=Tryz.sizeOf4;have a5:=Tryz.isAgg29;have z5:=Tryz.sizeOf29;have hS:Tryz.prog.underlying 86=some (.struct (Tryz.prog.fieldsOf 86)):=by kernel_rfl
 have hp:Tryz.prog.stoodInHeld 86=false:=by kernel_rfl
 have hq:=zWB 9997 x.s y.s;rw [show (10000:Nat)=9999+1 from rfl,run_equalIn_agg w 9999 86 _ _ hS hp];simp only [Program.fieldsOf,Tryz.underlying86];go_simp
 unfold spB
 cases sgB x.s y.s<;>by_cases h2:x.over=y.over<;>simp [h2]
set_option maxHeartbeats 6400000 in
set_option maxRecDepth 100000 in
theorem zLy (o p:Og) (aA:Option Addr) (an ac:Nat) (bA_:Option Addr) (bn bc:Nat) (w:World) (h1:Stps w aA an o.path) (h2:Stps w bA_ bn p.path) :
  Calls Tryz.prog 19 #[opV o aA an ac,opV p bA_ bn bc] w fun e w'=>e=.returned (.bool (decide (o=p)))∧Below w.heap.size w w':=by
 obtain ⟨ak,af,as_,aP,av⟩:=o;obtain ⟨bk,bf,bs_,bP,bv⟩:=p;simp only at h1 h2;have hb0:Below w.heap.size w ((w.alloc (.cells #[.int .i64 ak,.int .i64 af,.int .i64 as_.f,.int .i64 as_.l,.bool as_.far,.int .i64 as_.pc,.slice aA an ac,.bool av] 32)).alloc (.cells #[.int .i64 bk,.int .i64 bf,.int .i64 bs_.f,.int .i64 bs_.l,.bool bs_.far,.int .i64 bs_.pc,.slice bA_ bn bc,.bool bv] 32)):=((Below.refl _ _).alloc (Nat.le_refl _) _).alloc (by simp) _
 have hR:=qH (show ∀q:Bool,(q=true↔ak=bk∧af=bf∧as_=bs_∧aP=bP∧av=bv)→decide ((⟨ak,af,as_,aP,av⟩:Og)=⟨bk,bf,bs_,bP,bv⟩)=q from fun q hq=>by
  rw [Bool.eq_iff_iff,decide_eq_true_eq,hq];simp)
 obtain ⟨dd,hdd⟩:∃q,decide ((⟨ak,af,as_,aP,av⟩:Og)=⟨bk,bf,bs_,bP,bv⟩)=q:=⟨_,rfl⟩
 rw [hdd];have hR:=qH (fun q hq=>hdd.symm.trans (hR.out q hq));clear hdd;by_cases e1:ak=bk
 ·subst e1;by_cases e2:af=bf
  ·subst e2;have hq:=zUN as_ bs_;by_cases e3:as_=bs_
   ·subst e3;rw [zCA.2 rfl] at hq;by_cases e4:av=bv
    ·subst e4;by_cases e5:an=bn
     ·subst e5;have hka:Blk ((w.alloc (.cells #[.int .i64 ak,.int .i64 af,.int .i64 as_.f,.int .i64 as_.l,.bool as_.far,.int .i64 as_.pc,.slice aA an ac,.bool av] 32)).alloc (.cells #[.int .i64 ak,.int .i64 af,.int .i64 as_.f,.int .i64 as_.l,.bool as_.far,.int .i64 as_.pc,.slice bA_ an bc,.bool av] 32)) w.heap.size 32 #[.int .i64 ak,.int .i64 af,.int .i64 as_.f,.int .i64 as_.l,.bool as_.far,.int .i64 as_.pc,.slice aA an ac,.bool av]:=(Blk.new w _ _).alloc _;have hkb:Blk ((w.alloc (.cells #[.int .i64 ak,.int .i64 af,.int .i64 as_.f,.int .i64 as_.l,.bool as_.far,.int .i64 as_.pc,.slice aA an ac,.bool av] 32)).alloc (.cells #[.int .i64 ak,.int .i64 af,.int .i64 as_.f,.int .i64 as_.l,.bool as_.far,.int .i64 as_.pc,.slice bA_ an bc,.bool av] 32)) (w.heap.size+1) 32 #[.int .i64 ak,.int .i64 af,.int .i64 as_.f,.int .i64 as_.l,.bool as_.far,.int .i64 as_.pc,.slice bA_ an bc,.bool av]:=heap_alloc2_new w _ _;go_enter Tryz.func19,Tryz.ntmps19;go_upto_region 3 with fail
      generalize ((w.alloc (.cells #[.int .i64 ak,.int .i64 af,.int .i64 as_.f,.int .i64 as_.l,.bool as_.far,.int .i64 as_.pc,.slice aA an ac,.bool av] 32)).alloc (.cells #[.int .i64 ak,.int .i64 af,.int .i64 as_.f,.int .i64 as_.l,.bool as_.far,.int .i64 as_.pc,.slice bA_ an bc,.bool av] 32))=Y at hb0 hka hkb ⊢;have H1:=qH (h1.below hb0);have H2:=qH (h2.below hb0);have HL:=qH (And.intro h1.len h2.len);have hle:=h1.le;clear h1 h2;go_wp2_with fail
      go_loopw [5] (fun v5 wv=>∃(i:Nat) (X:World),X=wv∧i≤an∧v5=.int .i64 i∧Below Y.heap.size Y X∧Hid (∀j,j < i→pa aP j=pa bP j)) (fun v5 _=>an-(intOf v5).toNat)
      case atStart=>exact ⟨0,_,rfl,by omega,rfl,Below.refl _ _,qH (fun j hj=>by omega)⟩
      case round =>
       obtain ⟨i,X,hX,hi,rfl,hb,HS⟩:=hrel;subst hX;have hbw:=zAa hb0 hb hb0.size;have c6:X.cell? ⟨w.heap.size,6,none⟩=some (.slice aA an ac):=((hka.below hb hka.lt).cell 6).trans rfl;have d6:X.cell? ⟨w.heap.size+1,6,none⟩=some (.slice bA_ an bc):=((hkb.below hb hkb.lt).cell 6).trans rfl;by_cases hlt:i < an
       ·have j0:(0:Int)≤(i:Int):=by omega
        have j1:(i:Int) < (an:Int):=by omega
        obtain ⟨g1,o1,rfl,_,⟨x0,x1,x2,x3,x4⟩,_⟩:=(H1.out.below hb).at_ hlt;obtain ⟨g2,o2,rfl,_,⟨y0,y1,y2,y3,y4⟩,_⟩:=(H2.out.below hb).at_ hlt;have hqs:=eqSp (pa aP i) (pa bP i);have HBD:=qH (fun q=>zAf hb q);have HBW:=qH (fun q=>zAf hbw q);by_cases he:pa aP i=pa bP i
        ·rw [zPJ.2 he] at hqs
         have HS2:=qH (show ∀j,j < i+1→pa aP j=pa bP j from fun j hj=>by
          rcases Nat.decEq j i with e | e
          ·exact HS.out j (by omega)
          ·rw [e];exact he)
         clear he hb hbw;go_wp2_with fail
         go_quiet (fail)
         go_wp2_with fail
         go_roundw
         case rel=>exact ⟨i+1,_,rfl,by omega,by go_num,HBD.out _,HS2⟩
         case measure=>simp [intOf];omega
        ·rw [show spB (pa aP i) (pa bP i)=false by cases h:spB (pa aP i) (pa bP i) with | false=>rfl | true=>exact absurd (zPJ.1 h) he] at hqs;have HF:=qH (hR.out false ⟨fun h=>(by cases h),fun h=>absurd (by rw [h.2.2.2.1]) he⟩);clear he hb hbw;go_wp2_with fail
         go_quiet (fail)
         go_wp2_with fail
         go_ret;exact ⟨by rw [HF.out];rfl,HBW.out _⟩
       ·have j1:¬(i:Int) < (an:Int):=by omega
        have hPe:aP=bP:=List.ext_getElem (by rw [HL.out.1,HL.out.2]) (fun j h3 h4=>by
         have h5:=HS.out j (by rw [HL.out.1] at h3;omega)
         have h6:=zBS h3
         have h7:=zBS h4
         rw [List.getElem?_eq_getElem h3] at h6
         rw [List.getElem?_eq_getElem h4] at h7
         injection h6 with h6
         injection h7 with h7
         rw [h6,h7,h5])
        have HF:=qH (hR.out true (by simp [hPe]));clear hb hlt;go_wp2_with fail
        go_ret;exact ⟨by rw [HF.out];rfl,hbw⟩
     ·have k:((an:Int) != (bn:Int))=true:=by simp;omega
      have HF:=qH (hR.out false ⟨fun h=>(by cases h),fun h=>absurd (by rw [←h1.len,←h2.len,h.2.2.2.1]) e5⟩);clear e5;go_enter Tryz.func19,Tryz.ntmps19;go_wp2_with fail
      go_ret;exact ⟨by rw [HF.out];rfl,hb0⟩
    ·have HF:=qH (hR.out false ⟨fun h=>(by cases h),fun h=>absurd h.2.2.2.2 e4⟩)
     cases av<;>cases bv<;>first
      | exact absurd rfl e4
      | (clear e4
         go_enter Tryz.func19,Tryz.ntmps19
         go_wp2_with fail
         go_ret
         exact ⟨by rw [HF.out];rfl,hb0⟩)
   ·rw [show sgB as_ bs_=false by cases h:sgB as_ bs_ with | false=>rfl | true=>exact absurd (zCA.1 h) e3] at hq;have HF:=qH (hR.out false ⟨fun h=>(by cases h),fun h=>absurd h.2.2.1 e3⟩);clear e3;go_enter Tryz.func19,Tryz.ntmps19;go_wp2_with fail
    go_ret;exact ⟨by rw [HF.out];rfl,hb0⟩
  ·have k:(af != bf)=true:=by simpa using e2
   have HF:=qH (hR.out false ⟨fun h=>(by cases h),fun h=>absurd h.2.1 e2⟩);clear e2;go_enter Tryz.func19,Tryz.ntmps19;go_wp2_with fail
   go_ret;exact ⟨by rw [HF.out];rfl,hb0⟩
 ·have k:(ak != bk)=true:=by simpa using e1
  have HF:=qH (hR.out false ⟨fun h=>(by cases h),fun h=>absurd h.1 e1⟩);clear e1;go_enter Tryz.func19,Tryz.ntmps19;go_wp2_with fail
  go_ret;exact ⟨by rw [HF.out];rfl,hb0⟩
theorem zPK {o p:Og} {b:Bool} (h:decide (o=p)=b) (A1:Option Addr) (n1 c1:Nat) (A2:Option Addr) (n2 c2:Nat) (w:World) (h1:Stps w A1 n1 o.path) (h2:Stps w A2 n2 p.path) :
  Calls Tryz.prog 19 #[opV o A1 n1 c1,opV p A2 n2 c2] w fun e w'=>e=.returned (.bool b)∧Below w.heap.size w w':=by
 subst h;exact zLy o p A1 n1 c1 A2 n2 c2 w h1 h2
def ogs (Es:List Oe):List Og:=Es.map fun e=>e.o
set_option maxHeartbeats 6400000 in
set_option maxRecDepth 100000 in
theorem zKm (A:Option Addr) (n c:Nat) (Es:List Oe) (B:Option Addr) (m d:Nat) (Ds:List Oe) (w:World) (hA:Oprs w A n Es) (hB:Oprs w B m Ds) :
  Calls Tryz.prog 27 #[.slice A n c,.slice B m d] w fun e w'=>e=.returned (.bool (decide (ogs Es=ogs Ds)))∧Below w.heap.size w w':=by
 have hle:=hA.le;have hR:=qH (show ∀q:Bool,(q=true↔ogs Es=ogs Ds)→decide (ogs Es=ogs Ds)=q from fun q hq=>by rw [Bool.eq_iff_iff,decide_eq_true_eq,hq]);obtain ⟨dd,hdd⟩:∃q,decide (ogs Es=ogs Ds)=q:=⟨_,rfl⟩
 rw [hdd];have hR:=qH (fun q hq=>hdd.symm.trans (hR.out q hq));have HLA:=qH hA.len;have HLB:=qH hB.len;clear hdd;by_cases hnm:n=m
 ·subst hnm;go_enter Tryz.func27,Tryz.ntmps27;go_wp2_with fail
  go_loopw [5] (fun v5 wv=>∃(i:Nat) (X:World),X=wv∧i≤n∧v5=.int .i64 i∧Below w.heap.size w X∧Hid (∀j,j < i→(oa Es j).o=(oa Ds j).o)) (fun v5 _=>n-(intOf v5).toNat)
  case atStart=>exact ⟨0,_,rfl,by omega,rfl,Below.refl _ _,qH (fun j hj=>by omega)⟩
  case round =>
   obtain ⟨i,X,hX,hi,rfl,hb,HS⟩:=hrel;subst hX;by_cases hlt:i < n
   ·have j0:(0:Int)≤(i:Int):=by omega
    have j1:(i:Int) < (n:Int):=by omega
    obtain ⟨g1,o1,rfl,_,⟨x0,x1,x2,x3,x4,x5,x6,x7⟩,hin1⟩:=(hA.below hb).at_ hlt;obtain ⟨g2,o2,rfl,_,⟨y0,y1,y2,y3,y4,y5,y6,y7⟩,hin2⟩:=(hB.below hb).at_ hlt;obtain ⟨q,hq⟩:∃q,decide ((oa Es i).o=(oa Ds i).o)=q:=⟨_,rfl⟩
    have HSO:=qH (zPK hq (oa Es i).A (oa Es i).n (oa Es i).c (oa Ds i).A (oa Ds i).n (oa Ds i).c X.drew (hin1.path.below (Below.refl _ _).drew) (hin2.path.below (Below.refl _ _).drew))
    have HT:=qH (fun (h:q=true) j (hj:j < i+1)=>(show (oa Es j).o=(oa Ds j).o by
     rcases Nat.decEq j i with e | e
     ·exact HS.out j (by omega)
     ·rw [e];rw [h] at hq;exact of_decide_eq_true hq))
    have HN:=qH (fun (h:q=false)=>(show dd=false from hR.out false ⟨fun h=>(by cases h),fun he=>by
     rw [h] at hq
     have h1:=of_decide_eq_false hq
     have h2:=congrArg (fun l=>l[i]?) he
     simp only [ogs,List.getElem?_map,zBT (L:=Es) (i:=i) (by rw [HLA.out];exact hlt),zBT (L:=Ds) (i:=i) (by rw [HLB.out];exact hlt),Option.map_some,Option.some.injEq] at h2
     exact absurd h2 h1⟩))
    have hi1:i+1≤n:=hlt;clear hin1 hin2 hq;generalize oa Es i=ea at x0 x1 x2 x3 x4 x5 x6 x7 HSO ⊢;generalize oa Ds i=eb at y0 y1 y2 y3 y4 y5 y6 y7 HSO ⊢;obtain ⟨⟨k1,f1,⟨gf1,gl1,gr1,gp1⟩,P1,v1⟩,B1,m1,d1⟩:=ea;obtain ⟨⟨k2,f2,⟨gf2,gl2,gr2,gp2⟩,P2,v2⟩,B2,m2,d2⟩:=eb;simp only at x0 x1 x2 x3 x4 x5 x6 x7 y0 y1 y2 y3 y4 y5 y6 y7 HSO;have hbD:=hb.drew;go_upto_region 6 with fail
    go_region_law (first
     | ((go_simp;go_at_call 19;refine HSO.out.mono ?_;rintro e' wy ⟨rfl,hby⟩)))
    all_goals
     have hb9:=zAa hbD hby hbD.size;clear x0 x1 x2 x3 x4 x5 x6 x7 y0 y1 y2 y3 y4 y5 y6 y7 hby HSO hb hbD
     cases q with
     | true =>
      have HT2:=qH (HT.out rfl);go_wp2_with fail
      go_roundw
      case rel=>exact ⟨i+1,_,rfl,hi1,by go_num,hb9,HT2⟩
      case measure=>simp [intOf];omega
     | false =>
      have HF:=qH (HN.out rfl);go_wp2_with fail
      go_ret;exact ⟨by rw [HF.out];rfl,hb9⟩
   ·have j1:¬(i:Int) < (n:Int):=by omega
    have hPe:ogs Es=ogs Ds:=by
     unfold ogs;refine List.ext_getElem (by rw [List.length_map,List.length_map,HLA.out,HLB.out]) fun j h3 h4=>?_
     rw [List.length_map] at h3 h4;have h5:=HS.out j (by rw [HLA.out] at h3;omega);have h6:=zBT h3;have h7:=zBT h4;rw [List.getElem?_eq_getElem h3] at h6;rw [List.getElem?_eq_getElem h4] at h7;injection h6 with h6
     injection h7 with h7
     rw [List.getElem_map,List.getElem_map,h6,h7,h5]
    have HF:=qH (hR.out true ⟨fun _=>hPe,fun _=>rfl⟩);clear hlt;go_wp2_with fail
    go_ret;exact ⟨by rw [HF.out];rfl,hb⟩
 ·have k:((n:Int) != (m:Int))=true:=by simp;omega
  have HF:=qH (hR.out false ⟨fun h=>(by cases h),fun h=>absurd (by have:=congrArg List.length h;unfold ogs at this;rw [List.length_map,List.length_map,HLA.out,HLB.out] at this;exact this) hnm⟩);clear hnm;go_enter Tryz.func27,Tryz.ntmps27;go_wp2_with fail
  go_ret;exact ⟨by rw [HF.out];rfl,Below.refl _ _⟩
def stdF:List Fg:=[⟨1,false,1⟩,⟨1,false,2⟩,⟨1,false,3⟩,⟨1,false,4⟩,⟨1,false,5⟩,⟨1,true,5⟩,⟨1,true,4⟩,⟨1,true,3⟩,⟨1,true,2⟩,⟨1,true,1⟩]
def exL (s:Int):List Lt:=[⟨1,1,1,0,0,false⟩,⟨1,0,1,0,0,false⟩,⟨2,0,0,1,s,false⟩,⟨1,9,1,0,0,false⟩,⟨1,10,1,0,0,false⟩,⟨2,0,0,1,s,true⟩]
def exS:List UInt8:=[76,49,46,49,60,32,49,117,32,82,49,46,49,62,32,49,111]
def exT:List It:=[⟨some ⟨1,false,1⟩,1,false⟩,⟨none,1,false⟩,⟨some ⟨1,true,1⟩,1,true⟩,⟨none,1,true⟩]
def exB:List Bi:=[⟨1,1,false⟩,⟨0,1,false⟩,⟨10,1,true⟩,⟨0,1,true⟩]
theorem zVC:Lib.join (exT.map itW) [32]=exS:=by kernel_rfl
theorem zWC:∀t∈exT,okI t:=by
 intro t ht;simp only [exT,List.mem_cons,List.not_mem_nil,or_false] at ht;rcases ht with rfl | rfl | rfl | rfl<;>refine ⟨fun f hf=>?_,by simp only;omega,by simp only;omega⟩<;>first | (cases hf;done) | (injection hf with hf;subst hf;decide)
theorem zRF:zFU stdF exS=exB∧zEp (zAH 32 exS)=false∧zFC stdF (zAH 32 exS)=false:=by
 obtain ⟨h1,h2,h3⟩:=zPA stdF zWC;have hs:zAH 32 exS=exT.map itW:=by rw [←zVC];exact zNu (by simp [exT])
 unfold zFU;rw [hs,h1,h2,h3];exact ⟨by kernel_rfl,by kernel_rfl,by kernel_rfl⟩
theorem zRG:zAA stdF 6 4 exS=0:=by kernel_rfl
theorem zUg:zFE exB=true:=by kernel_rfl
theorem zRH:zAY stdF 6 4 (zFD exB / 2) (zAN (zCu stdF.length exB) exB) (2 ^ (zFD exB / 2))=[exL 1]:=by kernel_rfl
theorem zRI:¬(12 < zFD exB / 2∨400 < (zAN (zCu stdF.length exB) exB).length):=by decide
theorem zWD:rqR stdF 6 4 exS=([exL 1],0):=by
 obtain ⟨h1,h2,h3⟩:=zRF;unfold rqR zBQ crS;rw [h1,zRG,if_neg (by simp),if_neg (by decide),if_neg (by rw [h2];simp),if_neg (by rw [h3];simp),if_neg (by rw [zUg];simp),if_neg zRI,zRH,if_neg (by simp)]
theorem zSF:sqS stdF 6 4 10 (exL 1)=exS∧zCP stdF 6 4 10 (exL 1)=0:=⟨by kernel_rfl,by kernel_rfl⟩
def zWE:List UInt8:=[116,97,107,101,32,76,50,32,102,114,111,109,32,76,55,32,102,97,114,32,117,110,100,101,114]
def zWF:List UInt8:=[114,101,108,101,97,115,101,32,50,76,49]
theorem zRJ {f:Fg} (h:zAm f=true):zAk f≠[76,55]:=by
 obtain ⟨a1,a2,a3,a4⟩:=zAp.1 h;intro e;unfold zAk at e;rw [zCc a3 (by omega)] at e;have:=congrArg List.getLast? e;simp only [List.getLast?_append,List.getLast?_cons] at this;have h2:=zIB (a:=48+f.d.toNat) (b:=55) (by omega) (by omega) (by simpa using this);omega
theorem zUh (L:List Fg):zEl L zWE=6:=by
 refine (zLZ L fun n hn he=>?_).1;have h:=zDK n;rw [←he,show zBo zWE=[[116,97,107,101],[76,50],[102,114,111,109],[76,55],[102,97,114],[117,110,100,101,114]] by kernel_rfl] at h;unfold zID at h;injection h with h1 h2
 injection h2 with h2 h3
 have hk18:1≤n.kind∧n.kind≤8:=by
  rcases hn.2 with h | h | h | h | h<;>omega
 have hk:n.kind=5:=by
  rw [←zDv hk18.1 hk18.2,←h1];decide
 obtain ⟨x,hx,hxo⟩:∃x,n.fr=some x∧zCp x:=by
  rcases hn.2 with h | h | h | h | h
  ·omega
  ·omega
  ·omega
  ·exact h.2.1
  ·omega
 unfold tlT at h3;rw [if_neg (by omega),if_neg (by omega),if_pos hk] at h3;injection h3 with _ h4
 unfold frT at h4;rw [hx] at h4;unfold plT at h4;injection h4 with h5 _
 exact zRJ hxo.1 h5.symm
theorem zUi:zEl stdF zWF=8:=by
 have h:okN ⟨1,⟨2,false,1⟩,none,[],false⟩:=⟨by decide,.inl ⟨.inl rfl,rfl,rfl,rfl⟩⟩;have hl:zDi ⟨1,⟨2,false,1⟩,none,[],false⟩=zWF:=by kernel_rfl
 have:=(zGj stdF h).1;rw [hl] at this;rw [this];decide
end Go.Proofs.YtlmdfmnbcndhoaaGreatDoor
