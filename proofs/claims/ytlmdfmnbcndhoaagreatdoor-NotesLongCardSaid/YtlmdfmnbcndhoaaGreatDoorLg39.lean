/-
  Lemmas for NotesLong, part 39: contracts and plain facts. Conditions: those that each theorem names.
-/
import Derived.Test.YtlmdfmnbcndhoaaGreatDoorLg38
import Derived.Test.YtlmdfmnbcndhoaaGreatDoorLg05
import Derived.Test.YtlmdfmnbcndhoaaGreatDoorLg12
import Derived.Test.YtlmdfmnbcndhoaaGreatDoorLg32
import Derived.Test.YtlmdfmnbcndhoaaGreatDoorLg02
import Derived.Deep.RegionHeld3
namespace Go.Proofs.YtlmdfmnbcndhoaaGreatDoor
open Go.RowKit
theorem zRZ {w:World} {base:Nat} {K:Int} (hb:base≤w.heap.size):CodesOwn (w.alloc (.cells #[.int .i64 K,.slice none 0 0] 55)) base K (some ⟨w.heap.size,0,none⟩) 1 1 [⟨[],none,0,0⟩]:=by
 refine ⟨⟨rfl,Nat.le_refl _,fun e=>(by cases e),fun ad ha=>?_⟩,fun e he=>?_,fun e he=>by rw [List.mem_singleton.1 he];exact Nat.le_refl _⟩
 ·injection ha with ha
  subst ha;have hk:=Blk.new w 55 #[.int .i64 K,.slice none 0 0];refine ⟨rfl,hb,by simp,fun j u hu=>?_,fun j hj=>⟨?_,hk.frozen _⟩⟩
  ·rw [Nat.zero_add,hk.cell];simpa [zSW] using hu
  ·rw [Nat.zero_add,hk.cell];rcases (show j=0∨j=1 by omega) with rfl | rfl<;>rfl
 ·rw [List.mem_singleton.1 he];exact ⟨Lets.nil _ _,fun k hk=>by cases hk⟩
theorem zNb {cr N:Nat} (h:cr≤12) (hN:2 ^ cr=N):wrap64 ((2:Int) ^ cr)=(N:Int)∧IntKind.i64.wrap ((2:Int) ^ cr)=(N:Int)∧IntKind.i64.wrap (1*(2:Int) ^ cr)=(N:Int)∧wrap64 (1*(2:Int) ^ cr)=(N:Int):=by
 have hp1:(2:Int) ^ cr=(N:Int):=by rw [←hN];simp
 have hN4:N≤4096:=by rw [←hN];exact Nat.le_trans (Nat.pow_le_pow_right (by omega) h) (by decide)
 have h1:IntKind.i64.wrap (N:Int)=(N:Int):=IntWalk.i64_in _ (by omega);have h2:wrap64 (N:Int)=(N:Int):=by unfold wrap64;omega
 rw [Int.one_mul,hp1];exact ⟨h2,h1,h1,h2⟩
theorem zSa {L:List Fg} {re lo:Int} {S:List UInt8} (h:zAK L re lo S=0):L.length≤40∧S.length≤8000:=⟨(zCA.1 (zCh h).2).1,(zCh h).1⟩
theorem zKR {K:Int} {B:Option Addr} {n d:Nat} {L M:List Lt} {cr nu:Nat} (h:zBt cr nu L=M) (w:World) (hB:Lets w B n L) (hn:n≤1000000) (hcr:cr≤12) (hnu:nu < 4096) (hid:∀i,i < n→isC (la L i)=true→1≤(la L i).id∧(la L i).id≤cr) :
  Calls Tryz.prog 82 #[.agg #[.int .i64 K,.slice B n d],.int .i64 (cr:Int),.int .i64 (nu:Int)] w (zMb w K M):=by
 subst h;exact zKM K B n d L cr nu w hB hn hcr hnu hid
set_option maxHeartbeats 12800000 in
set_option maxRecDepth 100000 in
theorem zCS (F:Fm) (S:List UInt8) (w:World) (hA:Fgs w F.A F.n F.L) (hc:F.n≤F.c) (ht:Tabs w) :
  Calls Tryz.prog 37 #[frV F.A F.n F.c F.re F.lo,.string (bA S)] w (zQk w (F.n:Int) (rqR F.L F.re F.lo S).1 (rqR F.L F.re F.lo S).2):=by
 have hFL:F.L.length=F.n:=hA.len;have hb0:Below w.heap.size w (w.alloc (.cells #[.slice F.A F.n F.c,.int .i64 F.re,.int .i64 F.lo] 24)):=(Below.refl _ _).alloc (Nat.le_refl _) _;have hk0:Blk (w.alloc (.cells #[.slice F.A F.n F.c,.int .i64 F.re,.int .i64 F.lo] 24)) w.heap.size 24 #[.slice F.A F.n F.c,.int .i64 F.re,.int .i64 F.lo]:=Blk.new _ _ _;have HA:=Lib.hid hA;have HT:=Lib.hid ht;have HFL:=Lib.hid hFL;obtain ⟨E,hE⟩:∃E,zAK F.L F.re F.lo S=E:=⟨_,rfl⟩
 have hcs:=zET F.L F.re F.lo S;rw [hE] at hcs;have HBG:=Lib.hid (fun wx (hx:Fgs wx F.A F.n F.L)=>zDv F.A F.n F.c F.L F.re F.lo S wx hx hc);simp only [hE] at HBG;have HE:=Lib.hid hE;obtain ⟨⟨TC,TE⟩,hTR⟩:∃x,rqR F.L F.re F.lo S=x:=⟨_,rfl⟩
 rw [hTR];simp only;have GIV:=Lib.hid (fun (Cs:List (List Lt)) (er:Int) (hq:rqR F.L F.re F.lo S=(Cs,er)) (e:Ending) (wx:World) (h:zQk w (F.n:Int) Cs er e wx)=>(show zQk w (F.n:Int) TC TE e wx by rw [hTR] at hq;injection hq with h1 h2;subst h1;subst h2;exact h));have HHC:=Lib.hid hc;clear hA ht hE hTR hFL hc;go_enter Tryz.func37,Tryz.ntmps37;go_wp2_with fail
 generalize w.alloc (.cells #[.slice F.A F.n F.c,.int .i64 F.re,.int .i64 F.lo] 24)=Y at hb0 hk0 ⊢;refine (HBG.out Y (HA.out.below hb0)).mono ?_;rintro e Y2 ⟨rfl,hb2⟩;have hf2:=hk0.below hb2 hk0.lt;have hb3:=zAa hb0 hb2 hb0.size;clear hk0 hb0 hb2 HBG;by_cases h0:E=0
 ·subst h0;obtain ⟨hF40,hS8⟩:=zSa HE.out;have hn40:F.n≤40:=by rw [←HFL.out];exact hF40
  have HQ0:=Lib.hid (show ¬(zAK F.L F.re F.lo S≠0) from fun h=>h HE.out);obtain ⟨v0,v1,v2⟩:=cQ3 hf2;have n0:=zAJ S zGt;have hwz:w.heap.size≤Y2.heap.size:=hb3.size;have hwr:w.heap.size < Y2.heap.size:=hf2.lt;clear hcs hF40;by_cases hba:S=zGt
  ·rw [show (S==zGt)=true from by simpa using hba] at n0;have HF:=Lib.hid (GIV.out [[]] 0 (by unfold rqR;rw [if_neg HQ0.out,if_pos hba]) _ _ ⟨some ⟨Y2.heap.size,0,none⟩,1,1,[⟨[],none,0,0⟩],rfl,rfl,by omega,zRZ (K:=(F.n:Int)) hwz,hb3.alloc hb3.size _⟩);unfold zGt at n0;clear hba hf2 hb3;go_wp2_with fail
   go_ret2;exact HF.out
  ·rw [show (S==zGt)=false from by simpa using hba] at n0;unfold zGt at n0;have HQ1:=Lib.hid hba;have hbl:=(Below.refl Y2.heap.size Y2).alloc (Nat.le_refl _) (.cells (rdC F.A F.n F.c F.re F.lo none 0 0 false false) 123);have hb4:=zAa hb3 hbl hb3.size
   have hrx:RX (Y2.alloc (.cells (rdC F.A F.n F.c F.re F.lo none 0 0 false false) 123)) Y2.heap.size F ⟨[],false,false⟩ :=
    ⟨⟨none,0,0,Blk.new _ _ _,Els.nil _ _,Nat.le_refl _,fun k hk=>by cases hk⟩,HA.out.below hb4,fun h0 k hk=>by
     obtain ⟨g,o,e,hg,_⟩:=HA.out.1.2.2 h0
     rw [e] at hk
     injection hk with hk
     have hk':g=k:=hk
     omega⟩
   have hf4:=hf2.below hbl hf2.lt;clear hba hf2 hb3 hbl;go_upto_region 8 with fail
   clear v0 v1 v2 n0;generalize Y2.alloc (.cells (rdC F.A F.n F.c F.re F.lo none 0 0 false false) 123)=Z at hb4 hrx hf4 ⊢;generalize Y2.heap.size=rb at hrx hwz hwr ⊢;have hTX:∀X,Z.grownBy X (some rb)→Below w.heap.size w X:=fun X hg=>zAa hb4 (zBV hg hwz hb4.size) (Nat.le_refl _)
   have HTX:=Lib.hid hTX;have HBI:=Lib.hid (zMd rb F [] false false S Z hrx (by omega) (fun X hg=>HT.out.below (hTX X hg)));clear hTX hrx hb4;go_wp2_with fail
   refine HBI.out.mono ?_;rintro e X ⟨A1,c1,rfl,hR1,hx1,hg1⟩;have hbX:=HTX.out X hg1;have hfX:=hf4.grown hg1 (fun e=>by injection e;omega);obtain ⟨Ws,hWs⟩:∃x,zBo 32 S=x:=⟨_,rfl⟩
   have hWl:Ws.length≤8001:=by rw [←hWs];have:=zCz S;omega
   rw [hWs] at hR1 hx1 ⊢;rw [Bool.false_or,Bool.false_or] at hx1;have HWS:=Lib.hid hWs;obtain ⟨bd,hbd⟩:∃b,zEA Ws=b:=⟨_,rfl⟩
   obtain ⟨ls,hls⟩:∃b,zFJ F.L Ws=b:=⟨_,rfl⟩
   rw [hbd,hls] at hx1;have c4:=hx1.bad4.1;have c5:=hx1.lost5;simp only at c4 c5;have HBD:=Lib.hid hbd;have HLS:=Lib.hid hls;clear hWs hbd hls hg1 hf4 HBI
   cases bd with
   | true =>
    have HF:=Lib.hid (GIV.out [] 6 (by unfold rqR;rw [if_neg HQ0.out,if_neg HQ1.out,HWS.out,if_pos HBD.out]) _ X ⟨none,0,0,[],rfl,rfl,by omega,CodesOwn.none_ _ _ _,hbX⟩);clear hx1 hR1 hbX hfX c5;go_wp2_with fail
    go_ret2;exact HF.out
   | false =>
   cases ls with
   | true =>
    have HF:=Lib.hid (GIV.out [] 8 (by unfold rqR;rw [if_neg HQ0.out,if_neg HQ1.out,HWS.out,if_neg (by rw [HBD.out];simp),if_pos HLS.out]) _ X ⟨none,0,0,[],rfl,rfl,by omega,CodesOwn.none_ _ _ _,hbX⟩);clear hx1 hR1 hbX hfX;go_wp2_with fail
    go_ret2;exact HF.out
   | false =>
    have hIO:=zRX HBD.out HLS.out;obtain ⟨l,hl⟩:∃l,Ws.map (zMT F.L)=l:=⟨_,rfl⟩
    have hll:l.length=Ws.length:=by rw [←hl,List.length_map]
    have hBi:Bits X A1 Ws.length l:=by
     rw [hl] at hR1;refine ⟨hR1.els (fun _=>rfl) (by omega) (by omega),fun x hx=>?_⟩;rw [←hl] at hx;obtain ⟨y,_,rfl⟩:=List.mem_map.1 hx;exact zUl (by rw [HFL.out];omega) y
    rw [hl,HFL.out] at hIO;have HIO:=Lib.hid hIO;have HIT:=Lib.hid (show zEg F.L S=l by unfold zEg;rw [HWS.out,hl]);obtain ⟨n1,hn1⟩:∃n,Ws.length=n:=⟨_,rfl⟩
    rw [hn1] at hBi hWl hll ⊢;have HLL:=Lib.hid hll;have HCP:=Lib.hid (zIt F.n A1 n1 c1 l X hBi hn40 (by omega) (fun x hx=>by have:=hIO x hx;omega))
    have HR5:=Lib.hid (show ∀r,(if zEZ l=false then (([]:List (List Lt)),(3:Int)) else if 12 < crS F.L S∨400 < (zBI F.L S).length then ([],7) else if zAv F.L F.re F.lo (crS F.L S) (zBI F.L S) (2 ^ crS F.L S)=[] then ([],3) else (zAv F.L F.re F.lo (crS F.L S) (zBI F.L S) (2 ^ crS F.L S),0))=r→rqR F.L F.re F.lo S=r by
     intro r hr
     unfold rqR
     rw [if_neg HQ0.out,if_neg HQ1.out,HWS.out,if_neg (by rw [HBD.out];simp),if_neg (by rw [HLS.out];simp),HIT.out]
     exact hr)
    clear hx1 hIO hl hn1 hll hR1;go_wp2_with fail
    clear c4 c5;refine HCP.out.mono ?_;intro e X2 hcp;rcases hcp with ⟨hcb,g2,rfl,hO2,hb5⟩ | ⟨hcb,rfl,hb5⟩
    ·have hbX2:=zAa hbX hb5 hbX.size;have hfX2:=hfX.below hb5 hfX.lt;have hBi2:=hBi.below hb5;have HCB:=Lib.hid hcb;have HMB:=Lib.hid (show ∀j,j < F.n+2→∃v:Nat,(zBS F.n l)[j]? = some (v:Int)∧v≤100000 from fun j hj=>⟨_,zFa F.n l hj,by have:=zLU l (j:Int);have:=HLL.out;omega⟩);have HBL:=Lib.hid (zMe F.n A1 n1 c1 l g2 (zBS F.n l) X2 hBi2 ⟨hO2.blk,Nat.zero_le _,hO2.len⟩ hn40 (by omega) (fun x hx=>by have:=HIO.out x hx;omega) HMB.out);obtain ⟨L,hL⟩:∃L,zAO (zBS F.n l) l=L:=⟨_,rfl⟩
     obtain ⟨cr,hcr⟩:∃c,visN l / 2=c:=⟨_,rfl⟩
     rw [hL] at HBL;rw [hcr];have HLE:=Lib.hid (show zBI F.L S=L∧crS F.L S=cr by unfold zBI crS;rw [HIT.out,HFL.out];exact ⟨hL,hcr⟩)
     have HID:=Lib.hid (show ∀i,i < L.length→isC (la L i)=true→1≤(la L i).id∧(la L i).id≤cr from fun i hi hc=>by
      rw [←hL] at hi hc ⊢
      obtain ⟨x,hx,h0,he⟩:=zQl hi hc
      have h1:=zRY HCB.out hx h0
      have h2:=HIO.out x hx
      rw [hcr] at h1
      rw [he];omega)
     have HR6:=Lib.hid (show ∀r,(if 12 < cr∨400 < L.length then (([]:List (List Lt)),(7:Int)) else if zAv F.L F.re F.lo cr L (2 ^ cr)=[] then ([],3) else (zAv F.L F.re F.lo cr L (2 ^ cr),0))=r→rqR F.L F.re F.lo S=r by
      intro r hr
      refine HR5.out r ?_
      rw [if_neg (by rw [HCB.out];simp),HLE.out.1,HLE.out.2]
      exact hr)
     have hcb2:cr≤20001:=by rw [←hcr];have:=zLV l;have:=HLL.out;omega
     clear hcb hO2 hb5 hBi hBi2 hL hcr hbX hfX HCP;go_wp2_with fail
     refine HBL.out.mono ?_;rintro e X3 ⟨B3,m3,d3,rfl,hO3,hb6⟩;have hL3:L.length=m3:=hO3.len;have hbX3:=zAa hbX2 hb6 hbX2.size;have hfX3:=hfX2.below hb6 hfX2.lt;have hm3:m3≤1000000:=by
      have h8:=zOd (zBS F.n l) l;have h7:=HLL.out;have h9:=HLE.out.1;unfold zBI at h9;rw [HIT.out,HFL.out] at h9;rw [h9] at h8;omega
     have hbl:=(Below.refl X3.heap.size X3).alloc (Nat.le_refl _) (.cells #[.int .i64 (F.n:Int),.slice B3 m3 d3] 55);have hk13:Blk (X3.alloc (.cells #[.int .i64 (F.n:Int),.slice B3 m3 d3] 55)) X3.heap.size 55 #[.int .i64 (F.n:Int),.slice B3 m3 d3]:=Blk.new _ _ _;have hL4:=hO3.lets.below hbl;have hbX4:=zAa hbX3 hbl hbX3.size;have hfX4:=hfX3.below hbl hfX3.lt;clear hO3 hb6 hbX2 hfX2 hbX3 hfX3 hbl HBL;go_upto_region 17 with fail
     generalize X3.alloc (.cells #[.int .i64 (F.n:Int),.slice B3 m3 d3] 55)=X4 at hk13 hL4 hbX4 hfX4 ⊢;generalize X3.heap.size=a13 at hk13 ⊢;have u1:X4.cell? ⟨a13,1,none⟩=some (.slice B3 m3 d3):=(hk13.cell 1).trans rfl;by_cases h7:12 < cr∨400 < L.length
     ·have HF:=Lib.hid (GIV.out [] 7 (HR6.out _ (if_pos h7)) _ X4 ⟨none,0,0,[],rfl,rfl,by omega,CodesOwn.none_ _ _ _,hbX4⟩);clear hk13 hL4 hbX4 hfX4;by_cases h8:12 < cr
      ·have i0:(12:Int) < (cr:Int):=by omega
       clear h7 u1;go_wp2_with fail
       go_ret2;exact HF.out
      ·have i0:¬(12:Int) < (cr:Int):=by omega
       have i1:(400:Int) < (m3:Int):=by omega
       clear h7;go_wp2_with fail
       go_ret2;exact HF.out
     ·have i0:¬(12:Int) < (cr:Int):=by omega
      have i1:¬(400:Int) < (m3:Int):=by omega
      have hcr12:cr≤12:=by omega
      obtain ⟨N,hN⟩:∃N,2 ^ cr=N:=⟨_,rfl⟩
      have hN4:N≤4096:=by rw [←hN];exact Nat.le_trans (Nat.pow_le_pow_right (by omega) hcr12) (by decide)
      have HR7:=Lib.hid (show ∀r,(if zAv F.L F.re F.lo cr L N=[] then (([]:List (List Lt)),(3:Int)) else (zAv F.L F.re F.lo cr L N,0))=r→rqR F.L F.re F.lo S=r by
       intro r hr
       refine HR6.out r ?_
       rw [if_neg h7,hN]
       exact hr)
      have HL3:=Lib.hid hL3;have HW1:=Lib.hid (zNb hcr12 hN);clear h7 hN;go_upto_region 19 with fail
      clear i0 i1;go_upto_region 20 with fail -- B
      go_wp2_with fail -- A
      first
       | rw [HW1.out.1]
       | rw [HW1.out.2.1]
       | rw [HW1.out.2.2.1]
       | rw [HW1.out.2.2.2]
      have hX4w:w.heap.size≤X4.heap.size:=hbX4.size;have HID2:=Lib.hid (show ∀i,i < m3→isC (la L i)=true→1≤(la L i).id∧(la L i).id≤cr from fun i hi hc=>HID.out i (by rw [HL3.out];exact hi) hc);clear hL3 u1;go_loopw [14,70] (fun v14 v70 wv=>∃(nu m:Nat) (X:World) (A':Option Addr) (c':Nat) (Es:List Ce),X=wv∧nu≤N∧m≤nu∧v70=.int .i64 nu∧v14=.slice A' m c'∧CodesOwn X X4.heap.size (F.n:Int) A' m c' Es∧Below X4.heap.size X4 X∧Hid (List.map (fun x:Ce=>x.L) Es=zAv F.L F.re F.lo cr L nu)) (fun _ v70 _=>N-(intOf v70).toNat)
      case atStart=>exact ⟨0,0,_,none,0,[],rfl,by omega,by omega,rfl,rfl,CodesOwn.none_ _ _ _,Below.refl _ _,Lib.hid rfl⟩
      case round =>
       obtain ⟨nu,m,X5,A',c',Es,hX5,hnu,hmn,rfl,rfl,hE5,hb5,HS⟩:=hrel;subst hX5;by_cases hlt:nu < N
       ·have j0:(0:Int)≤(nu:Int):=by omega
        have j1:(nu:Int) < (N:Int):=by omega
        have hk5:=hk13.below hb5 hk13.lt;have hf5:=hfX4.below hb5 hfX4.lt;have hL5:=hL4.below hb5;have hbw5:=zAa hbX4 hb5 hbX4.size;obtain ⟨M,hM⟩:∃M,zBt cr nu L=M:=⟨_,rfl⟩
        obtain ⟨p,hp⟩:∃p,zBs F.L F.re F.lo (F.L.length:Int) M=p:=⟨_,rfl⟩
        have HSG:=Lib.hid (zKR (K:=(F.n:Int)) (d:=d3) hM X5 hL5 hm3 hcr12 (by omega) HID2.out);have HPO:=Lib.hid (fun wx (hx:Fgs wx F.A F.n F.L) (B:Option Addr) (q r:Nat) (hy:Lets wx B q M)=>zEf (d:=r) hp wx hx HHC.out hy);rw [HFL.out] at HPO;have HCY:=Lib.hid (fun (h:p=true)=>zIc (F:=F.L) (re:=F.re) (lo:=F.lo) (cr:=cr) (L:=L) (m:=nu) (by rw [hM,hp,h]));have HCN:=Lib.hid (fun (h:p=false)=>zIQ (F:=F.L) (re:=F.re) (lo:=F.lo) (cr:=cr) (L:=L) (m:=nu) (by rw [hM,hp,h]));rw [hM] at HCY;obtain ⟨u0,u1⟩:=cQ2 hk5;have hnu1:nu+1≤N:=hlt;have hm1:m+1≤nu+1:=by omega
        have hm9:m+1≤1000000:=by omega
        have hm2:m≤nu+1:=by omega
        clear hM hp hL5 hk5;go_wp2_with fail
        clear u0 u1;refine HSG.out.mono ?_;rintro e X6 ⟨B5,m5,d5,rfl,hO6,hb6⟩;have hE6:=hE5.below hb6;have hf6:=hf5.below hb6 hf5.lt;have hbw6:=zAa hbw5 hb6 hbw5.size;have hb64:=zAa hb5 hb6 hb5.size;have hlow:=fun k hk=>(hE5.row.lt k hk).2
        have HCP5:=Lib.hid (show m5≤d5 from hO6.row.cap);have HLOW:=Lib.hid (fun k (hk:blk B5=some k)=>(show k < X6.heap.size∧blk A'≠some k from ⟨(hO6.row.lt k hk).2,fun e2=>by have h1:=(hO6.row.lt k hk).1;have h2:=hlow k e2;omega⟩));have hbl:=(Below.refl X6.heap.size X6).alloc (Nat.le_refl _) (.cells #[.int .i64 (F.n:Int),.slice B5 m5 d5] 55);have hk16:Blk (X6.alloc (.cells #[.int .i64 (F.n:Int),.slice B5 m5 d5] 55)) X6.heap.size 55 #[.int .i64 (F.n:Int),.slice B5 m5 d5]:=Blk.new _ _ _;have hE7:=hE6.below hbl;have hf7:=hf6.below hbl hf6.lt;have hbw7:=zAa hbw6 hbl hbw6.size;have hb74:=zAa hb64 hbl hb64.size;have hL7:=hO6.lets.below hbl;have hs67:X6.heap.size≤(X6.alloc (.cells #[.int .i64 (F.n:Int),.slice B5 m5 d5] 55)).heap.size:=hbl.size;clear hE5 hf5 hbw5 hb5 hO6 hb6 hE6 hf6 hbw6 hb64 hlow hbl HSG;go_upto_region 24 with fail
        have HLOW2:=Lib.hid (fun k (hk:blk B5=some k)=>(show k < (X6.alloc (.cells #[.int .i64 (F.n:Int),.slice B5 m5 d5] 55)).heap.size∧blk A'≠some k from ⟨Nat.lt_of_lt_of_le (HLOW.out k hk).1 hs67,(HLOW.out k hk).2⟩));clear HLOW hs67;generalize X6.alloc (.cells #[.int .i64 (F.n:Int),.slice B5 m5 d5] 55)=X7 at hk16 hE7 hf7 hbw7 hb74 hL7 HLOW2 ⊢;generalize X6.heap.size=a16 at hk16 ⊢;obtain ⟨u0,u1⟩:=cQ2 hk16;obtain ⟨v0,v1,v2⟩:=cQ3 hf7;clear hf7;go_wp2_with fail
        clear u0 u1 v0 v1 v2;refine (HPO.out X7 (HA.out.below hbw7) B5 m5 d5 hL7).mono ?_;rintro e X8 ⟨rfl,hb8⟩;have hk8:=hk16.below hb8 hk16.lt;have hE8:=hE7.below hb8;have hL8:=hL7.below hb8;have hb84:=zAa hb74 hb8 hb74.size;have HLOW3:=Lib.hid (fun k (hk:blk B5=some k)=>(show k < X8.heap.size∧blk A'≠some k from ⟨Nat.lt_of_lt_of_le (HLOW2.out k hk).1 hb8.size,(HLOW2.out k hk).2⟩));clear hk16 hE7 hL7 hb74 hbw7 hb8 HLOW2 HPO
        cases p with
        | false =>
         have HF:=Lib.hid (show List.map (fun x:Ce=>x.L) Es=zAv F.L F.re F.lo cr L (nu+1) by rw [HCN.out rfl];exact HS.out);clear hk8 hL8;go_wp2_with fail
         go_roundw
         case rel=>exact ⟨nu+1,m,_,A',c',Es,rfl,hnu1,hm2,by go_num,rfl,hE8,hb84,HF⟩
         case measure=>simp [intOf];omega
        | true =>
         have HF:=Lib.hid (show List.map (fun x:Ce=>x.L) (Es++[(⟨M,B5,m5,d5⟩:Ce)])=zAv F.L F.re F.lo cr L (nu+1) by rw [HCY.out rfl,List.map_append,HS.out];rfl);obtain ⟨u0,u1⟩:=cQ2 hk8;have hz8:X4.heap.size≤X8.heap.size:=hb84.size;clear hk8;go_upto_region 26 with (at_builtin;refine zHL ?_)
         refine Lib.hid ?_;refine zWl (base:=X4.heap.size) (K:=(F.n:Int)) (A:=A') (n:=m) (c:=c') (Es:=Es) (y:=⟨M,B5,m5,d5⟩) (N:=m+1) rfl (.tmp 80) (.tmp 82) ?_ ?_ ?_ ?_ ?_ ?_ ?_ ?_
         ·rfl
         ·exact hE8.row
         ·rfl
         ·rfl
         ·rfl
         ·exact hm9
         ·exact hz8
         intro A2 c2 w9 hR9 hg9 hl9;have hE9:=hE8.push ⟨M,B5,m5,d5⟩ ⟨hL8,HLOW3.out⟩ HCP5.out hR9 hg9 hl9;have hb9:=hb84.trans (hE8.row.belowOf hg9 hz8);clear hE8 hL8 hb84 hR9 hg9 hl9 u0 u1;go_wp2_with fail
         go_roundw
         case rel=>exact ⟨nu+1,m+1,_,A2,c2,_,rfl,hnu1,hm1,by go_num,rfl,hE9,hb9,HF⟩
         case measure=>simp [intOf];omega
       ·have j1:¬(nu:Int) < (N:Int):=by omega
        have hin:nu=N:=by omega
        have hlen:=hE5.len;have hHS:=HS.out;rw [hin] at hHS;have hbw5:=zAa hbX4 hb5 hbX4.size;by_cases hm0:m=0
        ·have hes:Es=[]:=List.length_eq_zero_iff.1 (by omega);have HF:=Lib.hid (GIV.out [] 3 (HR7.out _ (if_pos (by rw [←hHS,hes];rfl))) _ X5 ⟨none,0,0,[],rfl,rfl,by omega,CodesOwn.none_ _ _ _,hbw5⟩);subst hm0;clear hE5 hb5 hbw5 hHS hlen hin hlt HS;go_wp2_with fail
         go_ret2;exact HF.out
        ·have i5:((m:Int)==0)=false:=by simp;omega
         have HF:=Lib.hid (GIV.out (List.map (fun x:Ce=>x.L) Es) 0 (HR7.out _ (by rw [if_neg (by rw [←hHS];intro h;have:=congrArg List.length h;simp at this;rw [this] at hlen;simp at hlen;omega),←hHS])) _ X5 ⟨A',m,c',Es,rfl,rfl,by omega,hE5.mono hX4w,hbw5⟩);clear hE5 hb5 hbw5 hHS hlen hin hlt HS hm0;go_wp2_with fail
         go_ret2;exact HF.out
    ·have HF:=Lib.hid (GIV.out [] 3 (HR5.out _ (if_pos hcb)) _ X2 ⟨none,0,0,[],rfl,rfl,by omega,CodesOwn.none_ _ _ _,zAa hbX hb5 hbX.size⟩);clear hcb hb5 hBi hbX hfX;go_wp2_with fail
     go_ret2;exact HF.out
 ·have HF:=Lib.hid (GIV.out [] E (by unfold rqR;rw [HE.out,if_pos h0]) _ Y2 ⟨none,0,0,[],rfl,rfl,by omega,CodesOwn.none_ _ _ _,hb3⟩);have k0:(E != 0)=true:=by simpa using h0
  clear hcs h0 hb3 hf2;go_wp2_with fail
  go_ret2;exact HF.out
end Go.Proofs.YtlmdfmnbcndhoaaGreatDoor
namespace Go.Proofs.YtlmdfmnbcndhoaaGreatDoor
open Go.RowKit
theorem zQm (A:Option Addr) (n c:Nat) (re lo:Int) (w:World) :
  Calls Tryz.prog 15 #[frV A n c re lo] w fun e w'=>e=.returned (.bool (decide (n≤60)))∧Below w.heap.size w w':=by
 have hb0:Below w.heap.size w (w.alloc (.cells #[.slice A n c,.int .i64 re,.int .i64 lo] 24)):=(Below.refl _ _).alloc (Nat.le_refl _) _;by_cases h:n≤60
 ·have i0:(n:Int)≤60:=by omega
  rw [decide_eq_true h];clear h;go_enter Tryz.func15,Tryz.ntmps15;go_wp2_with fail
  go_ret;exact ⟨rfl,hb0⟩
 ·have i0:¬(n:Int)≤60:=by omega
  rw [decide_eq_false h];clear h;go_enter Tryz.func15,Tryz.ntmps15;go_wp2_with fail
  go_ret;exact ⟨rfl,hb0⟩
end Go.Proofs.YtlmdfmnbcndhoaaGreatDoor
namespace Go.Proofs.YtlmdfmnbcndhoaaGreatDoor
open Go.RowKit
def stdF:List Fg:=[⟨1,false,1⟩,⟨1,false,2⟩,⟨1,false,3⟩,⟨1,false,4⟩,⟨1,false,5⟩,⟨1,true,5⟩,⟨1,true,4⟩,⟨1,true,3⟩,⟨1,true,2⟩,⟨1,true,1⟩]
def exL (s:Int):List Lt:=[⟨1,1,1,0,0,false⟩,⟨1,0,1,0,0,false⟩,⟨2,0,0,1,s,false⟩,⟨1,9,1,0,0,false⟩,⟨1,10,1,0,0,false⟩,⟨2,0,0,1,s,true⟩]
def exS:List UInt8:=[76,49,46,49,60,32,49,117,32,82,49,46,49,62,32,49,111]
def exT:List It:=[⟨some ⟨1,false,1⟩,1,false⟩,⟨none,1,false⟩,⟨some ⟨1,true,1⟩,1,true⟩,⟨none,1,true⟩]
def exB:List Bi:=[⟨1,1,false⟩,⟨0,1,false⟩,⟨10,1,true⟩,⟨0,1,true⟩]
theorem zVy:Lib.join (exT.map itW) [32]=exS:=by kernel_rfl
theorem zWm:∀t∈exT,okI t:=by
 intro t ht;simp only [exT,List.mem_cons,List.not_mem_nil,or_false] at ht;rcases ht with rfl | rfl | rfl | rfl<;>refine ⟨fun f hf=>?_,by simp only;omega,by simp only;omega⟩<;>first | (cases hf;done) | (injection hf with hf;subst hf;decide)
theorem zSb:zEg stdF exS=exB∧zEA (zBo 32 exS)=false∧zFJ stdF (zBo 32 exS)=false:=by
 obtain ⟨h1,h2,h3⟩:=zMc stdF zWm;have hs:zBo 32 exS=exT.map itW:=by rw [←zVy];exact zIP (by simp [exT])
 unfold zEg;rw [hs,h1,h2,h3];exact ⟨by kernel_rfl,by kernel_rfl,by kernel_rfl⟩
theorem zSc:zAK stdF 6 4 exS=0:=by kernel_rfl
theorem zUp:zEZ exB=true:=by kernel_rfl
theorem zSd:zAv stdF 6 4 (visN exB / 2) (zAO (zBS stdF.length exB) exB) (2 ^ (visN exB / 2))=[exL 1]:=by kernel_rfl
theorem zSe:¬(12 < visN exB / 2∨400 < (zAO (zBS stdF.length exB) exB).length):=by decide
theorem zWn:rqR stdF 6 4 exS=([exL 1],0):=by
 obtain ⟨h1,h2,h3⟩:=zSb;unfold rqR zBI crS;rw [h1,zSc,if_neg (by simp),if_neg (by decide),if_neg (by rw [h2];simp),if_neg (by rw [h3];simp),if_neg (by rw [zUp];simp),if_neg zSe,zSd,if_neg (by simp)]
theorem zSX:sqS stdF 6 4 10 (exL 1)=exS∧zBl stdF 6 4 10 (exL 1)=0:=⟨by kernel_rfl,by kernel_rfl⟩
end Go.Proofs.YtlmdfmnbcndhoaaGreatDoor
namespace Go.Proofs.YtlmdfmnbcndhoaaGreatDoor
open Go.RowKit
def zWo:List UInt8:=[116,97,107,101,32,76,50,32,102,114,111,109,32,76,55,32,102,97,114,32,117,110,100,101,114]
def zWp:List UInt8:=[114,101,108,101,97,115,101,32,50,76,49]
theorem zSf {f:Fg} (h:zAx f=true):zAq f≠[76,55]:=by
 obtain ⟨a1,a2,a3,a4⟩:=zAP.1 h;intro e;unfold zAq at e;rw [zBN a3 (by omega)] at e;have:=congrArg List.getLast? e;simp only [List.getLast?_append,List.getLast?_cons] at this;have h2:=zJn (a:=48+f.d.toNat) (b:=55) (by omega) (by omega) (by simpa using this);omega
theorem zUq (L:List Fg):zES L zWo=6:=by
 refine (zML L fun n hn he=>?_).1;have h:=zEo n;rw [←he,show zBD zWo=[[116,97,107,101],[76,50],[102,114,111,109],[76,55],[102,97,114],[117,110,100,101,114]] by kernel_rfl] at h;unfold zJr at h;injection h with h1 h2
 injection h2 with h2 h3
 have hk18:1≤n.kind∧n.kind≤8:=by
  rcases hn.2 with h | h | h | h | h<;>omega
 have hk:n.kind=5:=by
  rw [←zDW hk18.1 hk18.2,←h1];decide
 obtain ⟨x,hx,hxo⟩:∃x,n.fr=some x∧zCT x:=by
  rcases hn.2 with h | h | h | h | h
  ·omega
  ·omega
  ·omega
  ·exact h.2.1
  ·omega
 unfold tlT at h3;rw [if_neg (by omega),if_neg (by omega),if_pos hk] at h3;injection h3 with _ h4
 unfold frT at h4;rw [hx] at h4;unfold plT at h4;injection h4 with h5 _
 exact zSf hxo.1 h5.symm
theorem zUr:zES stdF zWp=8:=by
 have h:okN ⟨1,⟨2,false,1⟩,none,[],false⟩:=⟨by decide,.inl ⟨.inl rfl,rfl,rfl,rfl⟩⟩;have hl:zDE ⟨1,⟨2,false,1⟩,none,[],false⟩=zWp:=by kernel_rfl
 have:=(zGX stdF h).1;rw [hl] at this;rw [this];decide
end Go.Proofs.YtlmdfmnbcndhoaaGreatDoor
namespace Go.Proofs.YtlmdfmnbcndhoaaGreatDoor
open Go.RowKit
def exO:Og:=⟨3,9,⟨5,1,false,0⟩,[⟨⟨6,1,false,0⟩,true⟩],false⟩
def zWq:List UInt8:=[112,105,99,107,32,82,50,32,111,118,101,114,32,82,53,32,110,101,97,114,32,108,111,111,112,32,49,44,32,102,114,111,109,32,76,53,32,110,101,97,114,32,108,111,111,112,32,49]
def zNc:List UInt8:=[82,50,60,82,53,110,111,60,76,53,110]
def zWr:List UInt8:=[112,105,99,107,32,82,50,32,111,118,101,114,32,82,53,32,110,101,97,114,44,32,102,114,111,109,32,76,53,32,110,101,97,114,10]
theorem zNd:zBh stdF 6 4 [exO]=0∧zDL stdF exO=zWq:=⟨by kernel_rfl,by kernel_rfl⟩
def exN:Nop:=⟨3,⟨1,true,2⟩,some ⟨⟨1,false,5⟩,0,false,0⟩,[(⟨⟨1,true,5⟩,0,false,0⟩,true)],false⟩
theorem zSY:okN exN∧zWb exN:=by
 have h1:zCT ⟨⟨1,false,5⟩,0,false,0⟩:=⟨by decide,by simp,by simp,by simp,by simp⟩;have h2:zCT ⟨⟨1,true,5⟩,0,false,0⟩:=⟨by decide,by simp,by simp,by simp,by simp⟩;refine ⟨⟨by decide,.inr (.inr (.inl ⟨rfl,⟨_,rfl,h1⟩,fun y hy=>?_,rfl⟩))⟩,rfl,fun x hx=>?_,fun y hy=>?_⟩
 ·rw [List.mem_singleton.1 hy];exact h2
 ·injection hx with hx;rw [←hx];exact ⟨rfl,rfl,rfl⟩
 ·rw [List.mem_singleton.1 hy];exact ⟨rfl,rfl,rfl⟩
theorem zUs:zHI exN=zNc:=by kernel_rfl
theorem zNe:itE stdF zNc=0∧itO stdF zNc=[oOf stdF exN]:=by
 have hs:zBo 32 zNc=[zNc]:=by kernel_rfl
 have h:=zTI zSY.1 zSY.2;rw [zUs] at h;have ha:zDj (zBo 32 zNc)=some [exN]:=by rw [hs,zDj,h,zDj]
 have hl:List.any [exN] (zAF stdF)=false:=by decide
 unfold itE itO;rw [if_neg (by decide),if_neg (by decide),ha];simp only [hl];exact ⟨rfl,rfl⟩
theorem zNf:trE stdF 6 4 zNc 2 1=0∧trS stdF 6 4 zNc 2 1=zWr:=by
 have hb:zAK stdF 6 4 zNc=0:=by kernel_rfl
 have hf:frB stdF 6 4=true:=by kernel_rfl
 have h1:ntE stdF 6 4 2 zNc=0:=by
  unfold ntE rsE;rw [if_neg (by omega),if_pos hb];exact zNe.1
 have h2:ntO stdF 6 4 2 zNc=[oOf stdF exN]:=by
  unfold ntO rsO;rw [if_neg (by omega),if_pos hb];exact zNe.2
 have h3:trE stdF 6 4 zNc 2 1=0:=by
  unfold trE;rw [if_pos ⟨hf,.inr rfl,.inl rfl⟩,if_pos h1,if_neg (by omega)]
 refine ⟨h3,?_⟩;unfold trS;rw [if_pos h3,h2]
 kernel_rfl
end Go.Proofs.YtlmdfmnbcndhoaaGreatDoor
namespace Go.Proofs.YtlmdfmnbcndhoaaGreatDoor
open Go
def ovC (o:Bool):UInt8:=if o then 111 else 117
def sgC (s:Int):UInt8:=if s=1 then 43 else if s = -1 then 45 else 63
def ltS (l:Lt):List UInt8:=if l.kind=1 then Lib.itoa l.gate++[46]++Lib.itoa l.rank else if l.kind=2 then Lib.itoa l.id++[ovC l.over]++[sgC l.sign] else [63]
def zKS (L:List Lt):List UInt8:=L.flatMap (fun l=>32 :: ltS l)
def zCJ (K:Int) (L:List Lt):List UInt8:=Lib.itoa K++[58]++zKS L
theorem zJO (L:List Lt) (l:Lt):zKS (L++[l])=zKS L++([32]++ltS l):=by unfold zKS;rw [List.flatMap_append];simp
theorem zQn {x:Int} (h:I64 x):-9223372036854775808≤x∧x≤9223372036854775807:=h
theorem zQo {l:Lt} (h:LtOk l):(ltS l).length≤44:=by
 have hg:=zQn h.gate;have hr:=zQn h.rank;have hi:=zQn h.id;have h1:=Lib.itoa_length_le _ hg.1 hg.2;have h2:=Lib.itoa_length_le _ hr.1 hr.2;have h3:=Lib.itoa_length_le _ hi.1 hi.2;unfold ltS;split
 ·simp;omega
 ·split
  ·simp;omega
  ·simp
theorem zGE:∀{L:List Lt},(∀x∈L,LtOk x)→(zKS L).length≤45*L.length
 | [],_=>by simp [zKS]
 | l :: L,h=>by
  have h1:=zQo (h l (List.mem_cons_self ..));have h2:=zGE (fun x hx=>h x (List.mem_cons_of_mem _ hx));unfold zKS at h2 ⊢;rw [List.flatMap_cons,List.length_append,List.length_cons,List.length_cons];omega
theorem zOh {K:Int} {L:List Lt} (hK:I64 K) (h:∀x∈L,LtOk x):(zCJ K L).length≤45*L.length+22:=by
 have h1:=Lib.itoa_length_le K hK.1 hK.2;have h2:=zGE h;unfold zCJ;simp only [List.length_append,List.length_cons,List.length_nil];omega
end Go.Proofs.YtlmdfmnbcndhoaaGreatDoor
namespace Go.Proofs.YtlmdfmnbcndhoaaGreatDoor
open Go.RowKit
theorem zJP {x:Int} (hx:I64 x):(Lib.itoa x).length≤21:=Lib.itoa_length_le x hx.1 hx.2
end Go.Proofs.YtlmdfmnbcndhoaaGreatDoor
namespace Go.Proofs.YtlmdfmnbcndhoaaGreatDoor
open Go.RowKit
theorem zWs {L:List Lt} {i:Nat} (h:i < L.length):L[i]? = some (la L i):=by unfold la;rw [List.getElem?_eq_getElem h];rfl
theorem zUt {L:List Lt} {i:Nat} (h:i < L.length):L.take (i+1)=L.take i++[la L i]:=by rw [List.take_add_one,zWs h];rfl
theorem zMf {K:Int} {L:List Lt} {i:Nat} (h:i < L.length):zCJ K (L.take (i+1))=zCJ K (L.take i)++32 :: ltS (la L i):=by
 unfold zCJ;rw [zUt h,zJO];simp
theorem zUu {L:List Lt} (i:Nat) (h:∀x∈L,LtOk x):∀x∈L.take i,LtOk x:=fun x hx=>h x (List.mem_of_mem_take hx)
end Go.Proofs.YtlmdfmnbcndhoaaGreatDoor
