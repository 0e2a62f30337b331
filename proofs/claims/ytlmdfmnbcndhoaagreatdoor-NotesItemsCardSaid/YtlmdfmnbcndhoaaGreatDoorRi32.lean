/-
  Lemmas, part 32. Conditions: each theorem's own.
-/
import Derived.Test.YtlmdfmnbcndhoaaGreatDoorRi31
import Derived.Test.YtlmdfmnbcndhoaaGreatDoorRi10
import Derived.Laws.Cover2
import Derived.Lib.SliceRun
namespace Go.Proofs.YtlmdfmnbcndhoaaGreatDoor
open Go.RowKit
set_option maxHeartbeats 12800000 in
set_option maxRecDepth 100000 in
theorem zHz (A:Option Addr) (n c:Nat) (F:List Fg) (re lo:Int) (B:Option Addr) (m d:Nat) (L:List Lt) (w:World) (hA:Fgs w A n F) (hB:Lets w B m L) (hP:Pos F re lo L) (ht:Tabs w) :
  Calls Tryz.prog 75 #[frV A n c re lo,.agg #[.int .i64 (F.length:Int),.slice B m d]] w fun e w'=>e=.returned (.string (bA (zSx F L)))∧Below w.heap.size w w':=by
 have hb0:Below w.heap.size w ((w.alloc (.cells #[.slice A n c,.int .i64 re,.int .i64 lo] 24)).alloc (.cells #[.int .i64 (F.length:Int),.slice B m d] 55)):=((Below.refl _ _).alloc (Nat.le_refl _) _).alloc (by simp) _;have hk0:Blk ((w.alloc (.cells #[.slice A n c,.int .i64 re,.int .i64 lo] 24)).alloc (.cells #[.int .i64 (F.length:Int),.slice B m d] 55)) w.heap.size 24 #[.slice A n c,.int .i64 re,.int .i64 lo]:=(Blk.new w _ _).alloc _;have hk1:Blk ((w.alloc (.cells #[.slice A n c,.int .i64 re,.int .i64 lo] 24)).alloc (.cells #[.int .i64 (F.length:Int),.slice B m d] 55)) (w.heap.size+1) 55 #[.int .i64 (F.length:Int),.slice B m d]:=heap_alloc2_new w _ _;have hLn:L.length=m:=hB.len;have hFn:F.length=n:=hA.len;have hm4:m≤400:=by have:=hP.lps.len;omega
 have HLN:=qH hLn;have HFN:=qH hFn;have HP:=qH hP;have HB:=qH hB;have HA:=qH hA;have HT:=qH ht;have HLP:=qH (fun wx (hx:Lets wx B m L)=>zRp (c:=d) wx hx hP.lps);have d1:((w.alloc (.cells #[.slice A n c,.int .i64 re,.int .i64 lo] 24)).alloc (.cells #[.int .i64 (F.length:Int),.slice B m d] 55)).cell? ⟨w.heap.size+1,1,none⟩=some (.slice B m d):=(hk1.cell 1).trans rfl;have d0:((w.alloc (.cells #[.slice A n c,.int .i64 re,.int .i64 lo] 24)).alloc (.cells #[.int .i64 (F.length:Int),.slice B m d] 55)).cell? ⟨w.heap.size+1,0,none⟩=some (.int .i64 (F.length:Int)):=(hk1.cell 0).trans rfl;obtain ⟨K,hK⟩:∃K,F.length=K:=⟨_,rfl⟩
 rw [hK] at hb0 hk0 hk1 d0 d1 HLP ⊢;have HK:=qH hK;clear hLn hFn hP hB hA ht hK;by_cases hm0:m=0
 ·subst hm0;have HR:=qH (show zSx F L=zJa by unfold zSx;rw [if_pos HLN.out]);go_enter Tryz.func75,Tryz.ntmps75;go_wp2_with fail
  go_ret;exact ⟨by rw [HR.out];rfl,hb0⟩
 ·have i0:((m:Int)==0)=false:=by simp;omega
  go_enter Tryz.func75,Tryz.ntmps75;go_upto_region 3 with fail
  generalize ((w.alloc (.cells #[.slice A n c,.int .i64 re,.int .i64 lo] 24)).alloc (.cells #[.int .i64 (K:Int),.slice B m d] 55))=Y at hb0 hk0 hk1 d0 d1 ⊢;go_wp2_with fail
  refine (HLP.out Y (HB.out.below hb0)).mono ?_;rintro e Y2 ⟨g,rfl,hO,hb2⟩;have hf2:=hk0.below hb2 hk0.lt;have hc2:=hk1.below hb2 hk1.lt;have hby:=zAa hb0 hb2 hb0.size;have hgl:g < Y2.heap.size:=hO.lt;have d2:Y2.cell? ⟨w.heap.size+1,1,none⟩=some (.slice B m d):=(hc2.cell 1).trans rfl;rw [HLN.out] at hO;have HMN:=qH hm0;clear hk0 hk1 hb0 hb2 d0 d1 HLP hm0;go_wp2_with fail
  clear d2;go_loopw [6,7,22] (fun v6 v7 v22 wv=>∃(i:Nat) (X:World) (A':Option Addr) (k c':Nat) (Ss:List (List UInt8)),X=wv∧i≤m∧v22=.int .i64 i∧v7=.bool (!dwn L i)∧v6=.slice A' k c'∧Row X Y2.heap.size 1 A' k c' (Ss.map zKu)∧Below Y2.heap.size Y2 X∧k≤i∧Hid (Ss=zFG F L i)) (fun _ _ v22 _=>m-(intOf v22).toNat)
  case atStart=>exact ⟨0,_,none,0,0,[],rfl,by omega,rfl,rfl,rfl,Row.none_ _ _ _,Below.refl _ _,Nat.le_refl _,qH rfl⟩
  case round =>
   obtain ⟨i,X,A',k,c',Ss,hX,hi,rfl,rfl,rfl,hR,hb,hki,HS⟩:=hrel;subst hX;by_cases hlt:i < m
   ·have j0:(0:Int)≤(i:Int):=by omega
    have j1:(i:Int) < (m:Int):=by omega
    have hil:i < L.length:=by rw [HLN.out];exact hlt
    have hBx:Lets X B m L:=HB.out.below (zAa hby hb hby.size);have hcx:=hc2.below hb hc2.lt;have hfx:=hf2.below hb hf2.lt;have hOx:=hO.below hb hgl;obtain ⟨ga,o,rfl,hga,hat,hok⟩:=hBx.at_ hlt;obtain ⟨l,hle⟩:∃l,la L i=l:=⟨_,rfl⟩
    rw [hle] at hat;have HLE0:=qH hle;obtain ⟨x0,x1,x2,x3,x4,x5⟩:=hat;have hbl:=(Below.refl X.heap.size X).alloc (Nat.le_refl _) (.cells #[.int .i64 l.kind,.int .i64 l.gate,.int .i64 l.rank,.int .i64 l.id,.int .i64 l.sign,.bool l.over] 76);have hl9:Blk (X.alloc (.cells #[.int .i64 l.kind,.int .i64 l.gate,.int .i64 l.rank,.int .i64 l.id,.int .i64 l.sign,.bool l.over] 76)) X.heap.size 76 #[.int .i64 l.kind,.int .i64 l.gate,.int .i64 l.rank,.int .i64 l.id,.int .i64 l.sign,.bool l.over]:=Blk.new _ _ _;have hc1:=hcx.below hbl hcx.lt;have hf1:=hfx.below hbl hfx.lt;have hO1:=hOx.below hbl hOx.lt;have hB1:=hBx.below hbl;have hR1:=hR.below hbl;have hb1:=zAa hb hbl hb.size;have hz1:Y2.heap.size≤(X.alloc (.cells #[.int .i64 l.kind,.int .i64 l.gate,.int .i64 l.rank,.int .i64 l.id,.int .i64 l.sign,.bool l.over] 76)).heap.size:=hb1.size;obtain ⟨dw,hd⟩:∃d,dwn L i=d:=⟨_,rfl⟩
    rw [hd];clear hbl hcx hfx hOx hBx hR hok hb;go_upto_if 29 with fail
    clear x0 x1 x2 x3 x4 x5;generalize X.alloc (.cells #[.int .i64 l.kind,.int .i64 l.gate,.int .i64 l.rank,.int .i64 l.id,.int .i64 l.sign,.bool l.over] 76)=X1 at hl9 hc1 hf1 hO1 hB1 hR1 hb1 hz1 ⊢;generalize X.heap.size=a9 at hl9 ⊢;by_cases hk2:l.kind=2
    ·have q2:(l.kind==2)=true:=by simpa using hk2
     have hcr:isC (la L i)=true:=by rw [hle];exact zQr hk2
     have hid:=HP.out.id i hil hcr;rw [hle] at hid;have hI64:I64 l.id:=⟨by omega,by omega⟩;have HDN:=qH (show dwn L (i+1)=dw by rw [zWu (zTY hcr),hd]);obtain ⟨-,-,-,u0,-,u1⟩:=cQ6 hl9;obtain ⟨ID,hID⟩:∃S,Lib.itoa l.id=S:=⟨_,rfl⟩
     obtain ⟨LE,hLE⟩:∃S,zAo l.over=S:=⟨_,rfl⟩
     obtain ⟨IT,hIT⟩:∃S,ID++LE=S:=⟨_,rfl⟩
     have hl1:=zAZ hI64;have hl2:=zCm l.over;rw [hID] at hl1;rw [hLE] at hl2;have hcat:=zAr hIT _ _ rfl rfl (by omega) (by omega)
     have HST:=qH (show Ss++[IT]=zFG F L (i+1) by
      rw [zDQ,HS.out]
      unfold zHy zWw
      rw [if_pos hcr,hle,←hIT,←hID,←hLE,show zAo l.over=[if l.over then 111 else 117] by cases l.over<;>rfl])
     have HIT:=qH (fun wx (hx:Below X1.heap.size X1 wx)=>zPt hID hI64 wx (HT.out.below (zAa hby (zAa hb1 hx hb1.size) hby.size)));have HLE:=qH (fun wx=>zCD hLE wx)
     have KP:=qH (show ∀wx,Below X1.heap.size X1 wx→(wx.cell? ⟨a9,3,none⟩=some (.int .i64 l.id)∧wx.cell? ⟨a9,5,none⟩=some (.bool l.over)) from
      fun wx h=>⟨((hl9.below h hl9.lt).cell 3).trans rfl,((hl9.below h hl9.lt).cell 5).trans rfl⟩)
     have hk5:k≤400:=by omega
     clear hk2 hcr hid hle hID hLE hIT hl1 hl2 hd hf1 hc1 hO1 hB1 hl9 HS;go_upto_region 10 with fail
     go_region_law (first
      | ((go_simp;go_at_call 124;refine (HIT.out _ (by first | exact hbz | exact (Below.refl _ _).drew)).mono ?_;rintro e' wy ⟨rfl,hby2⟩)
         have hbz:Below X1.heap.size X1 wy:=(by first | exact zAa hbz hby2 hbz.size | exact zAa (Below.refl X1.heap.size X1).drew hby2 (Nat.le_refl _))
         obtain ⟨u2,u3⟩:=KP.out _ hbz)
      | ((go_simp;go_at_call 115;refine (HLE.out _).mono ?_;rintro e' wv ⟨rfl,rfl⟩))
      | ((refine zVv (base:=Y2.heap.size) (A:=A') (n:=k) (c:=c') (Ss:=Ss) rfl (.tmp 30) (.tmp 38) (by rfl) IT (by rfl) (by rfl) (hR1.below hbz) (k+1) rfl (by omega) (Nat.le_trans hz1 hbz.size) ?_)
         intro A2 c2 w9 hR9 hb9 hg9))
     all_goals
      have hb10:=(zAa hb1 hbz hb1.size).trans hb9;clear hR1 hb1 hbz hb9 HIT HLE KP hcat;go_wp2_with fail
      go_roundw
      case rel=>exact ⟨i+1,_,A2,k+1,c2,Ss++[IT],rfl,by omega,by go_num,by rw [HDN.out],rfl,hR9,hb10,by omega,HST⟩
      case measure=>simp [intOf];omega
    ·have q2:(l.kind==2)=false:=by simpa using hk2
     have hncr:isC (la L i)=false:=by rw [hle];exact zQs hk2
     have hp:=(HP.out.kinds i hil).resolve_right (by rw [hncr];simp);have HDN:=qH (show dwn L (i+1) = !dw by rw [zWb hp,hd])
     cases dw with
     | false =>
      have HST:=qH (show Ss=zFG F L (i+1) by
       rw [zDQ,HS.out]
       unfold zHy
       rw [hncr,hd];simp)
      clear hk2 hncr hp hd hle hf1 hc1 hO1 hB1 hl9 HS;go_wp2_with fail
      go_roundw
      case rel=>exact ⟨i+1,_,A',k,c',Ss,rfl,by omega,by go_num,by rw [HDN.out];rfl,rfl,hR1,hb1,by omega,HST⟩
      case measure=>simp [intOf];omega
     | true =>
      obtain ⟨k1,k2⟩:=HP.out.lps.arcs i hil hp hd;have k1m:i+1 < m:=by rw [←HLN.out];exact k1
      have HLF:=qH (HP.out.left i hil hp hd)
      have HRK:=qH (show 1≤(zBI L i).rank∧(zBI L i).rank≤400 by
       unfold zBI
       split
       ·exact HP.out.rank (i+1) k1 k2
       ·exact HP.out.rank i hil hp)
      obtain ⟨lu,hlu⟩:∃l,la L (i+1)=l:=⟨_,rfl⟩
      have HLU:=qH hlu;clear k2;have HSA:=qH (show zHy F L i=[zMk F L i] by unfold zHy;rw [hncr,hd];simp);have p1:(0:Int)≤(i:Int)+1:=by omega
      have p2:(i:Int)+1 < (m:Int):=by omega
      have p3:wrap64 ((i:Int)+1)=(i:Int)+1:=by unfold wrap64;omega
      obtain ⟨x0,x1,x2,x3,x4,x5⟩:=cQ6 hl9;have c1:X1.cell? ⟨w.heap.size+1,1,none⟩=some (.slice (some ⟨ga,o,none⟩) m d):=(hc1.cell 1).trans rfl;have hbl:=(Below.refl X1.heap.size X1).alloc (Nat.le_refl _) (.cells #[.int .i64 l.kind,.int .i64 l.gate,.int .i64 l.rank,.int .i64 l.id,.int .i64 l.sign,.bool l.over] 76);have hl10:Blk (X1.alloc (.cells #[.int .i64 l.kind,.int .i64 l.gate,.int .i64 l.rank,.int .i64 l.id,.int .i64 l.sign,.bool l.over] 76)) X1.heap.size 76 #[.int .i64 l.kind,.int .i64 l.gate,.int .i64 l.rank,.int .i64 l.id,.int .i64 l.sign,.bool l.over]:=Blk.new _ _ _;have hl9b:=hl9.below hbl hl9.lt;have hc1b:=hc1.below hbl hc1.lt;have hB1b:=hB1.below hbl;have hz10:X1.heap.size≤X1.heap.size:=Nat.le_refl _;clear hk2 hncr hp hd hle;go_upto_region 14 with fail
      clear x0 x1 x2 x3 x4 x5 c1;generalize hX2:X1.alloc (.cells #[.int .i64 l.kind,.int .i64 l.gate,.int .i64 l.rank,.int .i64 l.id,.int .i64 l.sign,.bool l.over] 76)=X2 at hl10 hl9b hc1b hB1b hbl ⊢;clear hX2;obtain ⟨a10,ha10⟩:∃a,X1.heap.size=a:=⟨_,rfl⟩
      rw [ha10] at hl10 hbl hz10 ⊢;have HA10:=qH ha10;clear ha10;have c1:X2.cell? ⟨w.heap.size+1,1,none⟩=some (.slice (some ⟨ga,o,none⟩) m d):=(hc1b.cell 1).trans rfl;have hU:=(hB1b.also k1m).1;rw [hlu] at hU;obtain ⟨x0,x1,x2,x3,x4,x5⟩:=hU;clear hlu;have hbl2:=(Below.refl X2.heap.size X2).alloc (Nat.le_refl _) (.cells #[.int .i64 lu.kind,.int .i64 lu.gate,.int .i64 lu.rank,.int .i64 lu.id,.int .i64 lu.sign,.bool lu.over] 76);have hl12:Blk (X2.alloc (.cells #[.int .i64 lu.kind,.int .i64 lu.gate,.int .i64 lu.rank,.int .i64 lu.id,.int .i64 lu.sign,.bool lu.over] 76)) X2.heap.size 76 #[.int .i64 lu.kind,.int .i64 lu.gate,.int .i64 lu.rank,.int .i64 lu.id,.int .i64 lu.sign,.bool lu.over]:=Blk.new _ _ _;have hl9c:=hl9b.below hbl2 hl9b.lt;have hl10c:=hl10.below hbl2 hl10.lt;have hbl3:Below a10 X1 (X2.alloc (.cells #[.int .i64 lu.kind,.int .i64 lu.gate,.int .i64 lu.rank,.int .i64 lu.id,.int .i64 lu.sign,.bool lu.over] 76)):=zAa hbl hbl2 (Nat.le_of_lt hl10.lt);go_upto_region 15 with fail
      clear x0 x1 x2 x3 x4 x5 c1 hbl2 hbl hl10 hl9b hc1b hB1b;generalize hX3:X2.alloc (.cells #[.int .i64 lu.kind,.int .i64 lu.gate,.int .i64 lu.rank,.int .i64 lu.id,.int .i64 lu.sign,.bool lu.over] 76)=X3 at hl12 hl9c hl10c hbl3 ⊢;clear hX3;generalize X2.heap.size=a12 at hl12 ⊢;have g9:X3.cell? ⟨a9,1,none⟩=some (.int .i64 l.gate):=(hl9c.cell 1).trans rfl;have y1:X3.cell? ⟨a12,1,none⟩=some (.int .i64 lu.gate):=(hl12.cell 1).trans rfl;go_upto_if 55 with fail
      go_cut [11] (fun v11 wv=>v11=.string (bA [zSw L i])∧∃V:World,V=wv∧Blk V a10 76 #[.int .i64 (zBI L i).kind,.int .i64 (zBI L i).gate,.int .i64 (zBI L i).rank,.int .i64 (zBI L i).id,.int .i64 (zBI L i).sign,.bool (zBI L i).over]∧Below a10 X1 V)
      case first =>
       by_cases hlt2:lu.gate < l.gate
       ·have HLL:=qH (show zBI L i=lu∧zSw L i=60 by unfold zBI zSw;rw [HLU.out,HLE0.out,if_pos hlt2,if_pos hlt2];exact ⟨rfl,rfl⟩);clear y1 g9 p1 p2 p3 j0 j1 k1 k1m;go_upto_region 16 with fail
        have HL10:=qH hl10c;have HB3:=qH hbl3;obtain ⟨y0,y1,y2,y3,y4,y5⟩:=cQ6 hl12;have v0:X3.cell? ⟨a10,0,none⟩=some (.int .i64 (l).kind):=(hl10c.cell 0).trans rfl;have z0:=hl10c.frozen 0;have v1:X3.cell? ⟨a10,1,none⟩=some (.int .i64 (l).gate):=(hl10c.cell 1).trans rfl;have z1:=hl10c.frozen 1;have v2:X3.cell? ⟨a10,2,none⟩=some (.int .i64 (l).rank):=(hl10c.cell 2).trans rfl;have z2:=hl10c.frozen 2;have v3:X3.cell? ⟨a10,3,none⟩=some (.int .i64 (l).id):=(hl10c.cell 3).trans rfl;have z3:=hl10c.frozen 3;have v4:X3.cell? ⟨a10,4,none⟩=some (.int .i64 (l).sign):=(hl10c.cell 4).trans rfl;have z4:=hl10c.frozen 4;have v5:X3.cell? ⟨a10,5,none⟩=some (.bool (l).over):=(hl10c.cell 5).trans rfl;have z5:=hl10c.frozen 5;clear hl12 hl9c hl10c hbl3 hlt2;go_wp2_with fail
        have SV:=zPo HL10.out (.int .i64 (lu).kind) (.int .i64 (lu).gate) (.int .i64 (lu).rank) (.int .i64 (lu).id) (.int .i64 (lu).sign) (.bool (lu).over);have BV:=zPp HB3.out hz10 (.int .i64 (lu).kind) (.int .i64 (lu).gate) (.int .i64 (lu).rank) (.int .i64 (lu).id) (.int .i64 (lu).sign) (.bool (lu).over);go_meet
        case rel=>exact ⟨by rw [HLL.out.2];rfl,_,rfl,by rw [HLL.out.1];exact SV,BV⟩
       ·have HLL:=qH (show zBI L i=l∧zSw L i=62 by unfold zBI zSw;rw [HLU.out,HLE0.out,if_neg hlt2,if_neg hlt2];exact ⟨rfl,rfl⟩);have SV:=qH hl10c;have BV:=qH hbl3;clear hl12 hl9c hl10c hbl3 y1 g9;go_wp2_with fail
        go_meet
        case rel=>exact ⟨by rw [HLL.out.2];rfl,_,rfl,by rw [HLL.out.1];exact SV.out,BV.out⟩
      case rest =>
       clear hl12 hl9c hl10c hbl3 g9 y1 p3;obtain ⟨rfl,V,hV,hl,hbV⟩:=hcut;have hlf:=HLF.out;have hrk:=HRK.out;subst hV;rw [←HA10.out] at hbV;have hfV:=hf1.below hbV hf1.lt;have hOV:=hO1.below hbV hO1.lt;have hRV:=hR1.below hbV;have hb2:=zAa hb1 hbV hb1.size;have hzV:Y2.heap.size≤V.heap.size:=hb2.size;have hAV:Fgs V A n F:=HA.out.below (zAa hby hb2 hby.size);obtain ⟨q,hq⟩:∃q:Nat,(zBI L i).gate=(q:Int):=⟨(zBI L i).gate.toNat,by omega⟩
       have hqK:q < K:=by have:=HK.out;omega
       have hK4:K≤40:=by have:=HP.out.lps.k40;have:=HK.out;omega
       obtain ⟨r,hr⟩:∃r,(zBI L i).rank=r:=⟨_,rfl⟩
       have hlp:=zFa K L m (g:=q) (by omega);have hll:=zPm L (q:Int) m;obtain ⟨v,hv⟩:∃v,lpC L (q:Int) m=v:=⟨_,rfl⟩
       rw [hv] at hlp hll;rw [hr] at hrk;obtain ⟨f0,f1,f2⟩:=cQ3 hfV;have e1:V.cell? ⟨a10,1,none⟩=some (.int .i64 (q:Int)):=by rw [←hq];exact (hl.cell 1).trans rfl
       have e2:V.cell? ⟨a10,2,none⟩=some (.int .i64 r):=by rw [←hr];exact (hl.cell 2).trans rfl
       have e3:V.cell? ⟨g,q,none⟩=some (.int .i64 (v:Int)):=hOV.cell hlp;have hnA:∀x,x < V.heap.size→(∀k',blk A'=some k'→k'≠x)→∀wx,V.grownBy wx (blk A')→∀q',wx.cell? ⟨x,q',none⟩=V.cell? ⟨x,q',none⟩:=fun x hx hne wx h q'=>World.cell?_of_block (w:=V) (w':=wx) (a:=⟨x,q',none⟩) (h.block x hx (fun e=>hne x e.symm rfl))
       have hA1:∀k',blk A'=some k'→Y2.heap.size≤k'∧k' < a10:=fun k' hk'=>⟨(hR1.lt k' hk').1,by rw [←HA10.out];exact (hR1.lt k' hk').2⟩
       have hwY:w.heap.size < Y2.heap.size:=hf2.lt
       have KP:=qH (show ∀wx,V.grownBy wx (blk A')→(V.grownBy wx (blk A')∧wx.cell? ⟨w.heap.size,0,none⟩=some (.slice A n c)∧wx.cell? ⟨w.heap.size,1,none⟩=some (.int .i64 re)∧wx.cell? ⟨w.heap.size,2,none⟩=some (.int .i64 lo)∧wx.cell? ⟨a10,1,none⟩=some (.int .i64 (q:Int))∧wx.cell? ⟨a10,2,none⟩=some (.int .i64 r)∧wx.cell? ⟨g,q,none⟩=some (.int .i64 (v:Int))) from
        fun wx h=>⟨h,(hnA _ hfV.lt (fun k' hk'=>by have:=hA1 k' hk';omega) wx h _).trans f0,(hnA _ hfV.lt (fun k' hk'=>by have:=hA1 k' hk';omega) wx h _).trans f1,(hnA _ hfV.lt (fun k' hk'=>by have:=hA1 k' hk';omega) wx h _).trans f2,(hnA _ hl.lt (fun k' hk'=>by have:=hA1 k' hk';omega) wx h _).trans e1,(hnA _ hl.lt (fun k' hk'=>by have:=hA1 k' hk';omega) wx h _).trans e2,(hnA _ hOV.lt (fun k' hk'=>by have:=hA1 k' hk';omega) wx h _).trans e3⟩)
       clear hnA hA1;have hI64:I64 (r-(v:Int)):=⟨by omega,by omega⟩;obtain ⟨NM,hNM⟩:∃S,nmF F ((q:Int)+1)=S:=⟨_,rfl⟩
       obtain ⟨ID,hID⟩:∃S,Lib.itoa (r-(v:Int))=S:=⟨_,rfl⟩
       obtain ⟨T1,hT1⟩:∃S,NM++[46]=S:=⟨_,rfl⟩
       obtain ⟨T2,hT2⟩:∃S,T1++ID=S:=⟨_,rfl⟩
       obtain ⟨IT,hIT⟩:∃S,T2++[zSw L i]=S:=⟨_,rfl⟩
       have hl1:=zAZ hI64;rw [hID] at hl1;have hl2:=zBq HP.out.fr (f:=(q:Int)+1) (by omega) (by have:=HK.out;omega);rw [hNM] at hl2;have hl3:T1.length≤50:=by rw [←hT1];simp;omega
       have hl4:T2.length≤100:=by rw [←hT2];simp;omega
       have hcat1:=zAr hT1 (bA NM) ⟨#[46]⟩ rfl rfl (by omega) (by simp);have hcat2:=zAr hT2 _ _ rfl rfl (by omega) (by omega);have hcat3:=zAr hIT _ _ rfl rfl (by omega) (by simp)
       have HST:=qH (show Ss++[IT]=zFG F L (i+1) by
        rw [zDQ,HS.out,HSA.out]
        unfold zMk
        rw [hq,hr,hNM,hT1,HLN.out,hv,hID,hT2,hIT])
       have HNM:=qH (fun wx (hx:Below V.heap.size V wx)=>zCU (c:=c) hNM wx (hAV.below hx) HP.out.fr (by omega) (by have:=HFN.out;have:=HK.out;omega));have HIT:=qH (fun wx (hx:Below V.heap.size V wx)=>zPt hID hI64 wx (HT.out.below (zAa hby (zAa hb2 hx hb2.size) hby.size)));have hk5:k≤400:=by omega
       have hk6:k+1≤1000000:=by omega
       have hk7:k+1≤i+1:=by omega
       have hi7:i+1≤m:=by omega
       have p4:(0:Int)≤(q:Int):=by omega
       have p7:(q:Int) < (K:Int)+2:=by omega
       have w1:IntKind.i64.wrap ((q:Int)+1)=(q:Int)+1:=zLq (by omega);have w2:IntKind.i64.wrap (r-(v:Int))=r-(v:Int):=IntWalk.i64_in _ hI64;generalize zSw L i=ar at hIT hcat3 ⊢;clear hq hr hlp hv hNM hID hT1 hT2 hIT hl1 hl2 hl3 hl4 hf1 hc1 hO1 hB1 hl9 HS HSA hR1 hb1 hbV hfV hOV hl hAV hrk hlf;go_upto_region 17 with fail
       first
        | go_region_held3 (fun wx=>V.grownBy wx (blk A')∧wx.cell? ⟨w.heap.size,0,none⟩=some (.slice A n c)∧wx.cell? ⟨w.heap.size,1,none⟩=some (.int .i64 re)∧wx.cell? ⟨w.heap.size,2,none⟩=some (.int .i64 lo)∧wx.cell? ⟨a10,1,none⟩=some (.int .i64 (q:Int))∧wx.cell? ⟨a10,2,none⟩=some (.int .i64 r)∧wx.cell? ⟨g,q,none⟩=some (.int .i64 (v:Int))) (first | assumption | exact KP.out _ (zBB (zBi _ _)) | exact KP.out _ (by assumption) | exact KP.out _ (zBg (by assumption) _))
          (first
           | (go_at_call 107;refine (HNM.out _ (by first | assumption | exact (Below.refl _ _).drew)).mono ?_;rintro e' wy ⟨rfl,hby2⟩
              have hbz:Below V.heap.size V wy:=(by first | exact zAa (show Below V.heap.size V _ by assumption) hby2 (Below.size (show Below V.heap.size V _ by assumption)) | exact zAa (Below.refl V.heap.size V).drew hby2 (Nat.le_refl _))
              have hgz:V.grownBy wy (blk A'):=zCS hbz _)
           | (go_at_call 124;refine (HIT.out _ (by first | assumption | exact (Below.refl _ _).drew)).mono ?_;rintro e' wy ⟨rfl,hby2⟩
              have hbz:Below V.heap.size V wy:=(by first | exact zAa (show Below V.heap.size V _ by assumption) hby2 (Below.size (show Below V.heap.size V _ by assumption)) | exact zAa (Below.refl V.heap.size V).drew hby2 (Nat.le_refl _))
              have hgz:V.grownBy wy (blk A'):=zCS hbz _)
           | (refine zVv (base:=Y2.heap.size) (A:=A') (n:=k) (c:=c') (Ss:=Ss) rfl (.tmp 57) (.tmp 76) (by rfl) IT (by rfl) (by rfl) (hRV.below hbz) (k+1) rfl hk6 (Nat.le_trans hzV hbz.size) ?_
              intro A2 c2 w9 hR9 hb9 hg9
              have hgz9:V.grownBy w9 (blk A'):=zAb (zCS hbz _) hg9))
        | fail
       all_goals
        have hb10:=(zAa hb2 hbz hb2.size).trans hb9;clear hRV hb2 hbz hb9 HIT HNM KP hcat1 hcat2 hcat3 f0 f1 f2 e1 e2 e3 w1 w2 hgz9;go_wp2_with fail
        go_roundw
        case rel=>exact ⟨i+1,_,A2,k+1,c2,Ss++[IT],rfl,hi7,by go_num,by rw [HDN.out];rfl,rfl,hR9,hb10,hk7,HST⟩
        case measure=>simp [intOf];omega
   ·have j1:¬(i:Int) < (m:Int):=by omega
    have hin:i=m:=by omega
    have hSs:Ss=zFG F L L.length:=by rw [HS.out,hin,HLN.out]
    have hjl:(Lib.join Ss [32]).length≤140737488355328:=by
     have:=zLM (b:=100) [32] (by simp) (xs:=Ss) (by rw [hSs];exact zLs HP.out (Nat.le_refl _));have h2:=zPs F L L.length;rw [←hSs,HLN.out] at h2;have:Ss.length*(100+1)≤400*101:=Nat.mul_le_mul (by omega) (by omega);omega
    have HJ:=qH (zLN hR (by omega) hjl);have HR:=qH (show Lib.join Ss [32]=zSx F L by unfold zSx;rw [if_neg (by rw [HLN.out];exact HMN.out),hSs]);have hbw:=zAa hby hb hby.size;clear hin hlt HS hSs hjl hR hb;go_wp2_with fail
    refine HJ.out.mono ?_;rintro e w8 ⟨rfl,hb8⟩;have hb9:=zAa hbw hb8 hbw.size;go_wp2_with fail
    go_ret;exact ⟨by rw [HR.out];rfl,hb9⟩
def sqS (F:List Fg) (re lo K:Int) (L:List Lt):List UInt8:=if zCP F re lo K L=0 then zSx F L else []
theorem zJb {A:Option Addr} {n c:Nat} {F:List Fg} {re lo K:Int} {B:Option Addr} {m d:Nat} {L:List Lt} {E:Int} (h:zCP F re lo K L=E) (w:World) (hA:Fgs w A n F) (hc:n≤c) (hB:Lets w B m L) :
  Calls Tryz.prog 74 #[frV A n c re lo,.agg #[.int .i64 K,.slice B m d]] w fun e w'=>e=.returned (.int .i64 E)∧Below w.heap.size w w':=by
 subst h;exact zLm A n c F re lo K B m d L w hA hc hB
theorem zLt {A:Option Addr} {n c:Nat} {F:List Fg} {re lo K:Int} {B:Option Addr} {m d:Nat} {L:List Lt} {S:List UInt8} (h:zSx F L=S) (w:World) (hA:Fgs w A n F) (hB:Lets w B m L) (hP:Pos F re lo L) (hK:K=(F.length:Int)) (ht:Tabs w) :
  Calls Tryz.prog 75 #[frV A n c re lo,.agg #[.int .i64 K,.slice B m d]] w fun e w'=>e=.returned (.string (bA S))∧Below w.heap.size w w':=by
 subst h;subst hK;exact zHz A n c F re lo B m d L w hA hB hP ht
set_option maxHeartbeats 3200000 in
theorem zHA (A:Option Addr) (n c:Nat) (F:List Fg) (re lo K:Int) (B:Option Addr) (m d:Nat) (L:List Lt) (w:World) (hA:Fgs w A n F) (hc:n≤c) (hB:Lets w B m L) (ht:Tabs w) :
  Calls Tryz.prog 33 #[frV A n c re lo,.agg #[.int .i64 K,.slice B m d]] w fun e w'=>e=.returned (.tuple #[.string (bA (sqS F re lo K L)),.int .i64 (zCP F re lo K L)])∧Below w.heap.size w w':=by
 have hb0:Below w.heap.size w ((w.alloc (.cells #[.slice A n c,.int .i64 re,.int .i64 lo] 24)).alloc (.cells #[.int .i64 K,.slice B m d] 55)):=((Below.refl _ _).alloc (Nat.le_refl _) _).alloc (by simp) _;have hk0:Blk ((w.alloc (.cells #[.slice A n c,.int .i64 re,.int .i64 lo] 24)).alloc (.cells #[.int .i64 K,.slice B m d] 55)) w.heap.size 24 #[.slice A n c,.int .i64 re,.int .i64 lo]:=(Blk.new w _ _).alloc _;have hk1:Blk ((w.alloc (.cells #[.slice A n c,.int .i64 re,.int .i64 lo] 24)).alloc (.cells #[.int .i64 K,.slice B m d] 55)) (w.heap.size+1) 55 #[.int .i64 K,.slice B m d]:=heap_alloc2_new w _ _;obtain ⟨E,hE⟩:∃E,zCP F re lo K L=E:=⟨_,rfl⟩
 obtain ⟨S,hS⟩:∃S,zSx F L=S:=⟨_,rfl⟩
 have HPO:=qH (fun wx (hx:Fgs wx A n F) (hy:Lets wx B m L)=>zJb (d:=d) hE wx hx hc hy);have HA:=qH hA;have HB:=qH hB;have HT:=qH ht;have HE:=qH hE;have HSE:=qH (fun (h0:E=0) wx (hx:Fgs wx A n F) (hy:Lets wx B m L) (hz:Tabs wx)=>zLt (c:=c) (d:=d) hS wx hx hy (zFT (zHl (hE.trans h0)).1).1 (zFT (zHl (hE.trans h0)).1).2 hz);rw [hE];have HR:=qH (show sqS F re lo K L=if E=0 then S else [] by unfold sqS;rw [hE,hS]);rw [HR.out];obtain ⟨R,hR⟩:∃R,(if E=0 then S else ([]:List UInt8))=R:=⟨_,rfl⟩
 rw [hR];have HRR:=qH hR;clear hA hB ht hE hS hc hR HR;go_enter Tryz.func33,Tryz.ntmps33;go_wp2_with fail
 generalize (w.alloc (.cells #[.slice A n c,.int .i64 re,.int .i64 lo] 24)).alloc (.cells #[.int .i64 K,.slice B m d] 55)=Y at hb0 hk0 hk1 ⊢;refine (HPO.out Y (HA.out.below hb0) (HB.out.below hb0)).mono ?_;rintro e Y2 ⟨rfl,hb2⟩;have hb3:=zAa hb0 hb2 hb0.size;have k2:=hk0.below hb2 hk0.lt;have k3:=hk1.below hb2 hk1.lt;clear hb2 hk0 hk1 hb0;by_cases h0:E=0
 ·have HSE2:=qH (HSE.out h0);obtain rfl:S=R:=by have:=HRR.out;rwa [if_pos h0] at this
  subst h0;clear HRR;obtain ⟨c0,c1⟩:=cQ2 k3;obtain ⟨c2,c3,c4⟩:=cQ3 k2;clear k2 k3;go_wp2_with fail
  refine (HSE2.out Y2 (HA.out.below hb3) (HB.out.below hb3) (HT.out.below hb3)).mono ?_;rintro e Y3 ⟨rfl,hb4⟩;have hb5:=zAa hb3 hb4 hb3.size;clear hb4 c0 c1 c2 c3 c4;go_wp2_with fail
  go_ret2;exact ⟨rfl,hb5⟩
 ·have q1:(E != 0)=true:=by simpa using h0
  obtain rfl:[]=R:=by have:=HRR.out;rwa [if_neg h0] at this
  clear h0 k2 k3 HRR;go_wp2_with fail
  go_ret2;exact ⟨rfl,hb3⟩
theorem Lets.src {w:World} {A:Option Addr} {n:Nat} {L:List Lt} (h:Lets w A n L):Src w 6 A n (L.flatMap ltC):=by
 refine ⟨by rw [zBY ltC 6 zDp,h.len],fun hn=>?_⟩;obtain ⟨g,o,rfl,hg,hc⟩:=h.2.2.2 hn;refine ⟨_,rfl,hg,fun j u hu=>?_⟩;have hjl:j < L.length*6:=by
  have:=(List.getElem?_eq_some_iff.1 hu).1
  rwa [zBY ltC 6 zDp] at this
 have hx:L[j / 6]? = some (L[j / 6]'(by omega)):=List.getElem?_eq_getElem _;have hf:=zFp ltC 6 zDp L (j / 6) (j % 6) _ hx (Nat.mod_lt _ (by omega));rw [show j / 6*6+j % 6=j by omega,hu] at hf;have ha:=hc (j / 6) _ hx;have hadd:(⟨g,o,none⟩:Addr).add j=⟨g,o+j,none⟩:=Addr.add_lit _ _ _;rw [hadd];have e:j=j / 6*6+j % 6:=by omega
 generalize L[j / 6]'(by omega)=x at *;rcases (show j % 6=0∨j % 6=1∨j % 6=2∨j % 6=3∨j % 6=4∨j % 6=5 by omega) with h6 | h6 | h6 | h6 | h6 | h6<;>rw [h6] at hf e<;>simp [ltC] at hf<;>subst hf
 ·rw [e];exact ha.kind
 ·rw [e];exact ha.gate
 ·rw [e];exact ha.rank
 ·rw [e];exact ha.id
 ·rw [e];exact ha.sign
 ·rw [e];exact ha.over
theorem zVw {w:World} {ops:Array Oper} {rest:List Oper} {o:Oper} {a:Act} {Q':Exit→Act→World→Prop} (hgd:o.guard=none) (s x:Operand)
  (ho:o.op=.call { callee:=.builtin .append,args:=#[s,x],argTypes:=#[53,53] })
  {base:Nat} {A:Option Addr} {n c:Nat} {L:List Lt} (hst:OwnL w base A n c L) {B:Option Addr} {m d:Nat} {M:List Lt} (hM:Lets w B m M) (hs:a.eval s=.slice A n c) (hx:a.eval x=.slice B m d)
  (N:Nat) (hN:n+m=N) (hn:N≤2932031007402) (hbase:base≤w.heap.size)
  (h:∀A' c' w',OwnL w' base A' N c' (L++M)→w.grownBy w' (blk A)→(∀k,blk A'=some k→blk A=some k∨w.heap.size≤k)→wpList Tryz.prog ops Q' rest (a.put o.dst (.slice A' N c')) w') :
  wpList Tryz.prog ops Q' (o :: rest) a w:=by
 obtain ⟨i0,hi,hz0,hz1,hz2⟩:=info_parts zLQ
 refine zQk hgd s x 53 ho 76 i0 _ 6 48 Tryz.underlying53 hi hz0 hz1 hz2 rfl (by decide) hst.row hM.src
  (by
   intro u hu
   obtain ⟨q,_,hq⟩:=List.mem_flatMap.1 hu
   simp [ltC] at hq
   rcases hq with rfl | rfl | rfl | rfl | rfl | rfl<;>rfl) hs hx N hN (by unfold maxLen;omega) (by omega) hbase ?_
 intro A' c' w' h1 h2 h3 _;refine h A' c' w' ⟨by rw [List.flatMap_append];exact h1,fun y hy=>?_,hn⟩ h2 h3;rcases List.mem_append.1 hy with hy | hy
 ·exact hst.fits y hy
 ·exact hM.fits y hy
def zLu (w0:World) (K:Int) (L:List Lt) (e:Ending) (w':World):Prop :=
 ∃B m d,e=.returned (.agg #[.int .i64 K,.slice B m d])∧OwnL w' w0.heap.size B m d L∧Below w0.heap.size w0 w'
def zHs (cr nu:Nat) (L:List Lt) (i:Nat):List Lt:=(L.take i).map (sgL cr nu)++L.drop i
theorem zPu (cr nu:Nat) (L:List Lt):zHs cr nu L 0=L:=by simp [zHs]
theorem zRq (cr nu:Nat) (L:List Lt):zHs cr nu L L.length=zCB cr nu L:=by simp [zHs,zCB]
theorem zPv {cr nu:Nat} {L:List Lt} {i:Nat} (h:i < L.length):(zHs cr nu L i)[i]? = some (la L i):=by
 unfold zHs;rw [List.getElem?_append_right (by simp;omega)];simp only [List.length_map,List.length_take,Nat.min_eq_left (Nat.le_of_lt h),Nat.sub_self,List.getElem?_drop,Nat.add_zero];unfold la;rw [List.getElem?_eq_getElem h];rfl
theorem zJc (cr nu:Nat) (L:List Lt) {i:Nat} (h:i≤L.length):(zHs cr nu L i).length=L.length:=by
 unfold zHs;rw [List.length_append,List.length_map,List.length_take,List.length_drop];omega
theorem zMl {cr nu:Nat} {L:List Lt} {i:Nat} (h:i < L.length):(zHs cr nu L i).set i (sgL cr nu (la L i))=zHs cr nu L (i+1):=by
 have hx:L[i]? = some (la L i):=by unfold la;rw [List.getElem?_eq_getElem h];rfl
 apply List.ext_getElem?;intro j;rw [List.getElem?_set];by_cases hj:i=j
 ·subst hj;rw [if_pos rfl,zJc _ _ _ (by omega),if_pos h];unfold zHs;rw [List.getElem?_append_left (by simp;omega),List.getElem?_map,List.getElem?_take_of_lt (by omega),hx];rfl
 ·rw [if_neg hj];unfold zHs;rcases Nat.lt_or_ge j i with h1 | h1
  ·rw [List.getElem?_append_left (by simp;omega),List.getElem?_append_left (by simp;omega),List.getElem?_map,List.getElem?_map,List.getElem?_take_of_lt h1,List.getElem?_take_of_lt (by omega)]
  ·rw [List.getElem?_append_right (by simp;omega),List.getElem?_append_right (by simp;omega)];simp only [List.length_map,List.length_take,List.getElem?_drop]
   congr 1;omega
theorem zPw {cr nu:Nat} {L:List Lt} {i:Nat} (h:i < L.length) (hs:sgL cr nu (la L i)=la L i):zHs cr nu L (i+1)=zHs cr nu L i:=by
 rw [←zMl h,hs];have:=zPv (cr:=cr) (nu:=nu) h;exact List.ext_getElem? fun j=>by
  rw [List.getElem?_set];by_cases hj:i=j
  ·subst hj;rw [if_pos rfl,zJc _ _ _ (by omega),if_pos h,this]
  ·rw [if_neg hj]
theorem zPx (q:Nat) (h:q < 4096):bits .and .i64 (q:Int) 1=((q % 2:Nat):Int):=by
 unfold bits;simp only [BitVec.toNat_and,BitVec.toNat_ofInt];have e1:((q:Int) % ((2 ^ IntKind.i64.bits:Nat):Int)).toNat=q:=by
  have:((2 ^ IntKind.i64.bits:Nat):Int)=18446744073709551616:=by decide
  rw [this];omega
 have e2:((1:Int) % ((2 ^ IntKind.i64.bits:Nat):Int)).toNat=1:=by decide
 rw [e1,e2,Nat.and_one_is_mod];exact IntWalk.i64_in _ (by omega)
theorem zVx {w:World} {ops:Array Oper} {o:Oper} {a:Act} {K:Act→World→Prop} {Q':Exit→Act→World→Prop} {E:Prop} (hgd:o.guard=none) (s x:Operand)
  (ho:o.op=.call { callee:=.builtin .append,args:=#[s,x],argTypes:=#[53,53] })
  {base:Nat} {A:Option Addr} {n c:Nat} {L:List Lt} {B:Option Addr} {m d:Nat} {M:List Lt} (hs:a.eval s=.slice A n c) (hx:a.eval x=.slice B m d)
  (hL:OwnL w base A n c L) (hM:Lets w B m M) (N:Nat) (hN:n+m=N) (hn:N≤2932031007402) (hbase:base≤w.heap.size)
  (h:∀A' c' w',OwnL w' base A' N c' (L++M)→w.grownBy w' (blk A)→(∀k,blk A'=some k→blk A=some k∨w.heap.size≤k)→K (a.put o.dst (.slice A' N c')) w') :
  if Region.wanted o (yielded ops a.tmps)=true then Oper.wp Tryz.prog o a w K Q' else E:=by
 obtain ⟨i0,hi,hz0,hz1,hz2⟩:=info_parts zLQ
 refine zQw hgd s x 53 ho 76 i0 _ 6 48 Tryz.underlying53 hi hz0 hz1 hz2 rfl (by decide) hL.row hM.src
  (by
   intro u hu
   obtain ⟨q,_,hq⟩:=List.mem_flatMap.1 hu
   simp [ltC] at hq
   rcases hq with rfl | rfl | rfl | rfl | rfl | rfl<;>rfl) hs hx N hN (by unfold maxLen;omega) (by omega) hbase ?_
 intro A' c' w' h1 h2 h3 _;refine h A' c' w' ⟨by rw [List.flatMap_append];exact h1,fun y hy=>?_,hn⟩ h2 h3;rcases List.mem_append.1 hy with hy | hy
 ·exact hL.fits y hy
 ·exact hM.fits y hy
end Go.Proofs.YtlmdfmnbcndhoaaGreatDoor
