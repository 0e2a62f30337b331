/-
  Lemmas, part 33. Conditions: each theorem's own.
-/
import Derived.Test.YtlmdfmnbcndhoaaGreatDoorRl32
import Derived.Test.YtlmdfmnbcndhoaaGreatDoorRl11
import Derived.Laws.Cover2
import Derived.Lib.SliceRun
namespace Go.Proofs.YtlmdfmnbcndhoaaGreatDoor
open Go.RowKit
set_option maxHeartbeats 12800000 in
set_option maxRecDepth 100000 in
theorem zHL (A:Option Addr) (n c:Nat) (F:List Fg) (re lo:Int) (B:Option Addr) (m d:Nat) (L:List Lt) (w:World) (hA:Fgs w A n F) (hB:Lets w B m L) (hP:Pos F re lo L) (ht:Tabs w) :
  Calls Tryz.prog 75 #[frV A n c re lo,.agg #[.int .i64 (F.length:Int),.slice B m d]] w fun e w'=>e=.returned (.string (bA (zTh F L)))∧Below w.heap.size w w':=by
 have ah:Below w.heap.size w ((w.alloc (.cells #[.slice A n c,.int .i64 re,.int .i64 lo] 24)).alloc (.cells #[.int .i64 (F.length:Int),.slice B m d] 55)):=((Below.refl _ _).alloc (Nat.le_refl _) _).alloc (by simp) _;have hk0:Blk ((w.alloc (.cells #[.slice A n c,.int .i64 re,.int .i64 lo] 24)).alloc (.cells #[.int .i64 (F.length:Int),.slice B m d] 55)) w.heap.size 24 #[.slice A n c,.int .i64 re,.int .i64 lo]:=(Blk.new w _ _).alloc _;have aq:Blk ((w.alloc (.cells #[.slice A n c,.int .i64 re,.int .i64 lo] 24)).alloc (.cells #[.int .i64 (F.length:Int),.slice B m d] 55)) (w.heap.size+1) 55 #[.int .i64 (F.length:Int),.slice B m d]:=heap_alloc2_new w _ _;have cq:L.length=m:=hB.len;have Fq:F.length=n:=hA.len;have hm4:m≤400:=by have:=hP.lps.len;omega
 have aR:=qH cq;have vy:=qH Fq;have HP:=qH hP;have HB:=qH hB;have HA:=qH hA;have HT:=qH ht;have nx:=qH (fun wx (hx:Lets wx B m L)=>zRS (c:=d) wx hx hP.lps);have d1:((w.alloc (.cells #[.slice A n c,.int .i64 re,.int .i64 lo] 24)).alloc (.cells #[.int .i64 (F.length:Int),.slice B m d] 55)).cell? ⟨w.heap.size+1,1,none⟩=some (.slice B m d):=(aq.cell 1).trans rfl;have d0:((w.alloc (.cells #[.slice A n c,.int .i64 re,.int .i64 lo] 24)).alloc (.cells #[.int .i64 (F.length:Int),.slice B m d] 55)).cell? ⟨w.heap.size+1,0,none⟩=some (.int .i64 (F.length:Int)):=(aq.cell 0).trans rfl;obtain ⟨K,hK⟩:∃K,F.length=K:=⟨_,rfl⟩
 rw [hK] at ah hk0 aq d0 d1 nx ⊢;have HK:=qH hK;clear cq Fq hP hB hA ht hK;by_cases hm0:m=0
 ·subst hm0;have HR:=qH (show zTh F L=zJo by unfold zTh;rw [if_pos aR.out]);go_enter Tryz.func75,Tryz.ntmps75;go_wp2_with fail
  go_ret;exact ⟨by rw [HR.out];rfl,ah⟩
 ·have i0:((m:Int)==0)=false:=by simp;omega
  go_enter Tryz.func75,Tryz.ntmps75;go_upto_region 3 with fail
  generalize ((w.alloc (.cells #[.slice A n c,.int .i64 re,.int .i64 lo] 24)).alloc (.cells #[.int .i64 (K:Int),.slice B m d] 55))=Y at ah hk0 aq d0 d1 ⊢;go_wp2_with fail
  refine (nx.out Y (HB.out.below ah)).mono ?_;rintro e Y2 ⟨g,rfl,hO,ai⟩;have bt:=hk0.below ai hk0.lt;have B0:=aq.below ai aq.lt;have hby:=zAa ah ai ah.size;have hgl:g < Y2.heap.size:=hO.lt;have d2:Y2.cell? ⟨w.heap.size+1,1,none⟩=some (.slice B m d):=(B0.cell 1).trans rfl;rw [aR.out] at hO;have HMN:=qH hm0;clear hk0 aq ah ai d0 d1 nx hm0;go_wp2_with fail
  clear d2;go_loopw [6,7,22] (fun v6 v7 zv wv=>∃(i:Nat) (X:World) (A':Option Addr) (k c':Nat) (Ss:List (List UInt8)),X=wv∧i≤m∧zv=.int .i64 i∧v7=.bool (!dwn L i)∧v6=.slice A' k c'∧Row X Y2.heap.size 1 A' k c' (Ss.map zDo)∧Below Y2.heap.size Y2 X∧k≤i∧Hid (Ss=zFT F L i)) (fun _ _ zv _=>m-(intOf zv).toNat)
  case atStart=>exact ⟨0,_,none,0,0,[],rfl,by omega,rfl,rfl,rfl,Row.none_ _ _ _,Below.refl _ _,Nat.le_refl _,qH rfl⟩
  case round =>
   obtain ⟨i,X,A',k,c',Ss,hX,hi,rfl,rfl,rfl,hR,hb,hki,HS⟩:=hrel;subst hX;by_cases hlt:i < m
   ·have j0:(0:Int)≤(i:Int):=by omega
    have j1:(i:Int) < (m:Int):=by omega
    have hil:i < L.length:=by rw [aR.out];exact hlt
    have nM:Lets X B m L:=HB.out.below (zAa hby hb hby.size);have hcx:=B0.below hb B0.lt;have hfx:=bt.below hb bt.lt;have hOx:=hO.below hb hgl;obtain ⟨ga,o,rfl,hga,hat,hok⟩:=nM.at_ hlt;obtain ⟨l,hle⟩:∃l,la L i=l:=⟨_,rfl⟩
    rw [hle] at hat;have zb:=qH hle;obtain ⟨x0,x1,x2,x3,x4,x5⟩:=hat;have hbl:=(Below.refl X.heap.size X).alloc (Nat.le_refl _) (.cells #[.int .i64 l.kind,.int .i64 l.gate,.int .i64 l.rank,.int .i64 l.id,.int .i64 l.sign,.bool l.over] 76);have ck:Blk (X.alloc (.cells #[.int .i64 l.kind,.int .i64 l.gate,.int .i64 l.rank,.int .i64 l.id,.int .i64 l.sign,.bool l.over] 76)) X.heap.size 76 #[.int .i64 l.kind,.int .i64 l.gate,.int .i64 l.rank,.int .i64 l.id,.int .i64 l.sign,.bool l.over]:=Blk.new _ _ _;have oK:=hcx.below hbl hcx.lt;have eH:=hfx.below hbl hfx.lt;have hO1:=hOx.below hbl hOx.lt;have iv:=nM.below hbl;have fG:=hR.below hbl;have ay:=zAa hb hbl hb.size;have be:Y2.heap.size≤(X.alloc (.cells #[.int .i64 l.kind,.int .i64 l.gate,.int .i64 l.rank,.int .i64 l.id,.int .i64 l.sign,.bool l.over] 76)).heap.size:=ay.size;obtain ⟨dw,hd⟩:∃d,dwn L i=d:=⟨_,rfl⟩
    rw [hd];clear hbl hcx hfx hOx nM hR hok hb;go_upto_if 29 with fail
    clear x0 x1 x2 x3 x4 x5;generalize X.alloc (.cells #[.int .i64 l.kind,.int .i64 l.gate,.int .i64 l.rank,.int .i64 l.id,.int .i64 l.sign,.bool l.over] 76)=X1 at ck oK eH hO1 iv fG ay be ⊢;generalize X.heap.size=a9 at ck ⊢;by_cases hk2:l.kind=2
    ·have q2:(l.kind==2)=true:=by simpa using hk2
     have hcr:isC (la L i)=true:=by rw [hle];exact zQS hk2
     have hid:=HP.out.id i hil hcr;rw [hle] at hid;have ni:I64 l.id:=⟨by omega,by omega⟩;have qA:=qH (show dwn L (i+1)=dw by rw [zXl (zUK hcr),hd]);obtain ⟨-,-,-,u0,-,u1⟩:=cQ6 ck;obtain ⟨ID,qh⟩:∃S,Lib.itoa l.id=S:=⟨_,rfl⟩
     obtain ⟨LE,Ai⟩:∃S,zAO l.over=S:=⟨_,rfl⟩
     obtain ⟨IT,jH⟩:∃S,ID++LE=S:=⟨_,rfl⟩
     have iD:=zAM ni;have hl2:=zCl l.over;rw [qh] at iD;rw [Ai] at hl2;have hcat:=zAp jH _ _ rfl rfl (by omega) (by omega)
     have mO:=qH (show Ss++[IT]=zFT F L (i+1) by
      rw [zDV,HS.out]
      unfold zHK zXn
      rw [if_pos hcr,hle,←jH,←qh,←Ai,show zAO l.over=[if l.over then 111 else 117] by cases l.over<;>rfl])
     have kW:=qH (fun wx (hx:Below X1.heap.size X1 wx)=>zPX qh ni wx (HT.out.below (zAa hby (zAa ay hx ay.size) hby.size)));have iI:=qH (fun wx=>zCH Ai wx)
     have KP:=qH (show ∀wx,Below X1.heap.size X1 wx→(wx.cell? ⟨a9,3,none⟩=some (.int .i64 l.id)∧wx.cell? ⟨a9,5,none⟩=some (.bool l.over)) from
      fun wx h=>⟨((ck.below h ck.lt).cell 3).trans rfl,((ck.below h ck.lt).cell 5).trans rfl⟩)
     have jD:k≤400:=by omega
     clear hk2 hcr hid hle qh Ai jH iD hl2 hd eH oK hO1 iv ck HS;go_upto_region 10 with fail
     go_region_law (first
      | ((go_simp;go_at_call 124;refine (kW.out _ (by first | exact hbz | exact (Below.refl _ _).drew)).mono ?_;rintro e' wy ⟨rfl,jj⟩)
         have hbz:Below X1.heap.size X1 wy:=(by first | exact zAa hbz jj hbz.size | exact zAa (Below.refl X1.heap.size X1).drew jj (Nat.le_refl _))
         obtain ⟨u2,u3⟩:=KP.out _ hbz)
      | ((go_simp;go_at_call 115;refine (iI.out _).mono ?_;rintro e' wv ⟨rfl,rfl⟩))
      | ((refine zWf (base:=Y2.heap.size) (A:=A') (n:=k) (c:=c') (Ss:=Ss) rfl (.tmp 30) (.tmp 38) (by rfl) IT (by rfl) (by rfl) (fG.below hbz) (k+1) rfl (by omega) (Nat.le_trans be hbz.size) ?_)
         intro A2 c2 w9 hR9 aS cl))
     all_goals
      have bX:=(zAa ay hbz ay.size).trans aS;clear fG ay hbz aS kW iI KP hcat;go_wp2_with fail
      go_roundw
      case rel=>exact ⟨i+1,_,A2,k+1,c2,Ss++[IT],rfl,by omega,by go_num,by rw [qA.out],rfl,hR9,bX,by omega,mO⟩
      case measure=>simp [intOf];omega
    ·have q2:(l.kind==2)=false:=by simpa using hk2
     have hncr:isC (la L i)=false:=by rw [hle];exact zQT hk2
     have hp:=(HP.out.kinds i hil).resolve_right (by rw [hncr];simp);have qA:=qH (show dwn L (i+1) = !dw by rw [zWS hp,hd])
     cases dw with
     | false =>
      have mO:=qH (show Ss=zFT F L (i+1) by
       rw [zDV,HS.out]
       unfold zHK
       rw [hncr,hd];simp)
      clear hk2 hncr hp hd hle eH oK hO1 iv ck HS;go_wp2_with fail
      go_roundw
      case rel=>exact ⟨i+1,_,A',k,c',Ss,rfl,by omega,by go_num,by rw [qA.out];rfl,rfl,fG,ay,by omega,mO⟩
      case measure=>simp [intOf];omega
     | true =>
      obtain ⟨k1,k2⟩:=HP.out.lps.arcs i hil hp hd;have ED:i+1 < m:=by rw [←aR.out];exact k1
      have jP:=qH (HP.out.left i hil hp hd)
      have HRK:=qH (show 1≤(zBH L i).rank∧(zBH L i).rank≤400 by
       unfold zBH
       split
       ·exact HP.out.rank (i+1) k1 k2
       ·exact HP.out.rank i hil hp)
      obtain ⟨lu,hlu⟩:∃l,la L (i+1)=l:=⟨_,rfl⟩
      have GI:=qH hlu;clear k2;have Gw:=qH (show zHK F L i=[zMP F L i] by unfold zHK;rw [hncr,hd];simp);have p1:(0:Int)≤(i:Int)+1:=by omega
      have p2:(i:Int)+1 < (m:Int):=by omega
      have p3:wrap64 ((i:Int)+1)=(i:Int)+1:=by unfold wrap64;omega
      obtain ⟨x0,x1,x2,x3,x4,x5⟩:=cQ6 ck;have c1:X1.cell? ⟨w.heap.size+1,1,none⟩=some (.slice (some ⟨ga,o,none⟩) m d):=(oK.cell 1).trans rfl;have hbl:=(Below.refl X1.heap.size X1).alloc (Nat.le_refl _) (.cells #[.int .i64 l.kind,.int .i64 l.gate,.int .i64 l.rank,.int .i64 l.id,.int .i64 l.sign,.bool l.over] 76);have m9:Blk (X1.alloc (.cells #[.int .i64 l.kind,.int .i64 l.gate,.int .i64 l.rank,.int .i64 l.id,.int .i64 l.sign,.bool l.over] 76)) X1.heap.size 76 #[.int .i64 l.kind,.int .i64 l.gate,.int .i64 l.rank,.int .i64 l.id,.int .i64 l.sign,.bool l.over]:=Blk.new _ _ _;have dc:=ck.below hbl ck.lt;have un:=oK.below hbl oK.lt;have uS:=iv.below hbl;have xc:X1.heap.size≤X1.heap.size:=Nat.le_refl _;clear hk2 hncr hp hd hle;go_upto_region 14 with fail
      clear x0 x1 x2 x3 x4 x5 c1;generalize hX2:X1.alloc (.cells #[.int .i64 l.kind,.int .i64 l.gate,.int .i64 l.rank,.int .i64 l.id,.int .i64 l.sign,.bool l.over] 76)=X2 at m9 dc un uS hbl ⊢;clear hX2;obtain ⟨jw,uE⟩:∃a,X1.heap.size=a:=⟨_,rfl⟩
      rw [uE] at m9 hbl xc ⊢;have zm:=qH uE;clear uE;have c1:X2.cell? ⟨w.heap.size+1,1,none⟩=some (.slice (some ⟨ga,o,none⟩) m d):=(un.cell 1).trans rfl;have hU:=(uS.also ED).1;rw [hlu] at hU;obtain ⟨x0,x1,x2,x3,x4,x5⟩:=hU;clear hlu;have pW:=(Below.refl X2.heap.size X2).alloc (Nat.le_refl _) (.cells #[.int .i64 lu.kind,.int .i64 lu.gate,.int .i64 lu.rank,.int .i64 lu.id,.int .i64 lu.sign,.bool lu.over] 76);have eq:Blk (X2.alloc (.cells #[.int .i64 lu.kind,.int .i64 lu.gate,.int .i64 lu.rank,.int .i64 lu.id,.int .i64 lu.sign,.bool lu.over] 76)) X2.heap.size 76 #[.int .i64 lu.kind,.int .i64 lu.gate,.int .i64 lu.rank,.int .i64 lu.id,.int .i64 lu.sign,.bool lu.over]:=Blk.new _ _ _;have fJ:=dc.below pW dc.lt;have b8:=m9.below pW m9.lt;have dv:Below jw X1 (X2.alloc (.cells #[.int .i64 lu.kind,.int .i64 lu.gate,.int .i64 lu.rank,.int .i64 lu.id,.int .i64 lu.sign,.bool lu.over] 76)):=zAa hbl pW (Nat.le_of_lt m9.lt);go_upto_region 15 with fail
      clear x0 x1 x2 x3 x4 x5 c1 pW hbl m9 dc un uS;generalize hX3:X2.alloc (.cells #[.int .i64 lu.kind,.int .i64 lu.gate,.int .i64 lu.rank,.int .i64 lu.id,.int .i64 lu.sign,.bool lu.over] 76)=X3 at eq fJ b8 dv ⊢;clear hX3;generalize X2.heap.size=a12 at eq ⊢;have g9:X3.cell? ⟨a9,1,none⟩=some (.int .i64 l.gate):=(fJ.cell 1).trans rfl;have y1:X3.cell? ⟨a12,1,none⟩=some (.int .i64 lu.gate):=(eq.cell 1).trans rfl;go_upto_if 55 with fail
      go_cut [11] (fun nU wv=>nU=.string (bA [zTg L i])∧∃V:World,V=wv∧Blk V jw 76 #[.int .i64 (zBH L i).kind,.int .i64 (zBH L i).gate,.int .i64 (zBH L i).rank,.int .i64 (zBH L i).id,.int .i64 (zBH L i).sign,.bool (zBH L i).over]∧Below jw X1 V)
      case first =>
       by_cases hlt2:lu.gate < l.gate
       ·have eR:=qH (show zBH L i=lu∧zTg L i=60 by unfold zBH zTg;rw [GI.out,zb.out,if_pos hlt2,if_pos hlt2];exact ⟨rfl,rfl⟩);clear y1 g9 p1 p2 p3 j0 j1 k1 ED;go_upto_region 16 with fail
        have DC:=qH b8;have qC:=qH dv;obtain ⟨y0,y1,y2,y3,y4,y5⟩:=cQ6 eq;have v0:X3.cell? ⟨jw,0,none⟩=some (.int .i64 (l).kind):=(b8.cell 0).trans rfl;have z0:=b8.frozen 0;have v1:X3.cell? ⟨jw,1,none⟩=some (.int .i64 (l).gate):=(b8.cell 1).trans rfl;have z1:=b8.frozen 1;have v2:X3.cell? ⟨jw,2,none⟩=some (.int .i64 (l).rank):=(b8.cell 2).trans rfl;have z2:=b8.frozen 2;have v3:X3.cell? ⟨jw,3,none⟩=some (.int .i64 (l).id):=(b8.cell 3).trans rfl;have z3:=b8.frozen 3;have v4:X3.cell? ⟨jw,4,none⟩=some (.int .i64 (l).sign):=(b8.cell 4).trans rfl;have z4:=b8.frozen 4;have v5:X3.cell? ⟨jw,5,none⟩=some (.bool (l).over):=(b8.cell 5).trans rfl;have z5:=b8.frozen 5;clear eq fJ b8 dv hlt2;go_wp2_with fail
        have SV:=zPS DC.out (.int .i64 (lu).kind) (.int .i64 (lu).gate) (.int .i64 (lu).rank) (.int .i64 (lu).id) (.int .i64 (lu).sign) (.bool (lu).over);have BV:=zPT qC.out xc (.int .i64 (lu).kind) (.int .i64 (lu).gate) (.int .i64 (lu).rank) (.int .i64 (lu).id) (.int .i64 (lu).sign) (.bool (lu).over);go_meet
        case rel=>exact ⟨by rw [eR.out.2];rfl,_,rfl,by rw [eR.out.1];exact SV,BV⟩
       ·have eR:=qH (show zBH L i=l∧zTg L i=62 by unfold zBH zTg;rw [GI.out,zb.out,if_neg hlt2,if_neg hlt2];exact ⟨rfl,rfl⟩);have SV:=qH b8;have BV:=qH dv;clear eq fJ b8 dv y1 g9;go_wp2_with fail
        go_meet
        case rel=>exact ⟨by rw [eR.out.2];rfl,_,rfl,by rw [eR.out.1];exact SV.out,BV.out⟩
      case rest =>
       clear eq fJ b8 dv g9 y1 p3;obtain ⟨rfl,V,hV,hl,pX⟩:=hcut;have hlf:=jP.out;have hrk:=HRK.out;subst hV;rw [←zm.out] at pX;have xO:=eH.below pX eH.lt;have jG:=hO1.below pX hO1.lt;have E3:=fG.below pX;have ai:=zAa ay pX ay.size;have hzV:Y2.heap.size≤V.heap.size:=ai.size;have yk:Fgs V A n F:=HA.out.below (zAa hby ai hby.size);obtain ⟨q,hq⟩:∃q:Nat,(zBH L i).gate=(q:Int):=⟨(zBH L i).gate.toNat,by omega⟩
       have hqK:q < K:=by have:=HK.out;omega
       have hK4:K≤40:=by have:=HP.out.lps.k40;have:=HK.out;omega
       obtain ⟨r,hr⟩:∃r,(zBH L i).rank=r:=⟨_,rfl⟩
       have hlp:=zFg K L m (g:=q) (by omega);have hll:=zPQ L (q:Int) m;obtain ⟨v,hv⟩:∃v,lpC L (q:Int) m=v:=⟨_,rfl⟩
       rw [hv] at hlp hll;rw [hr] at hrk;obtain ⟨f0,f1,f2⟩:=cQ3 xO;have e1:V.cell? ⟨jw,1,none⟩=some (.int .i64 (q:Int)):=by rw [←hq];exact (hl.cell 1).trans rfl
       have e2:V.cell? ⟨jw,2,none⟩=some (.int .i64 r):=by rw [←hr];exact (hl.cell 2).trans rfl
       have e3:V.cell? ⟨g,q,none⟩=some (.int .i64 (v:Int)):=jG.cell hlp;have tT:∀x,x < V.heap.size→(∀k',blk A'=some k'→k'≠x)→∀wx,V.grownBy wx (blk A')→∀q',wx.cell? ⟨x,q',none⟩=V.cell? ⟨x,q',none⟩:=fun x hx hne wx h q'=>World.cell?_of_block (w:=V) (w':=wx) (a:=⟨x,q',none⟩) (h.block x hx (fun e=>hne x e.symm rfl))
       have jJ:∀k',blk A'=some k'→Y2.heap.size≤k'∧k' < jw:=fun k' iE=>⟨(fG.lt k' iE).1,by rw [←zm.out];exact (fG.lt k' iE).2⟩
       have nD:w.heap.size < Y2.heap.size:=bt.lt
       have KP:=qH (show ∀wx,V.grownBy wx (blk A')→(V.grownBy wx (blk A')∧wx.cell? ⟨w.heap.size,0,none⟩=some (.slice A n c)∧wx.cell? ⟨w.heap.size,1,none⟩=some (.int .i64 re)∧wx.cell? ⟨w.heap.size,2,none⟩=some (.int .i64 lo)∧wx.cell? ⟨jw,1,none⟩=some (.int .i64 (q:Int))∧wx.cell? ⟨jw,2,none⟩=some (.int .i64 r)∧wx.cell? ⟨g,q,none⟩=some (.int .i64 (v:Int))) from
        fun wx h=>⟨h,(tT _ xO.lt (fun k' iE=>by have:=jJ k' iE;omega) wx h _).trans f0,(tT _ xO.lt (fun k' iE=>by have:=jJ k' iE;omega) wx h _).trans f1,(tT _ xO.lt (fun k' iE=>by have:=jJ k' iE;omega) wx h _).trans f2,(tT _ hl.lt (fun k' iE=>by have:=jJ k' iE;omega) wx h _).trans e1,(tT _ hl.lt (fun k' iE=>by have:=jJ k' iE;omega) wx h _).trans e2,(tT _ jG.lt (fun k' iE=>by have:=jJ k' iE;omega) wx h _).trans e3⟩)
       clear tT jJ;have ni:I64 (r-(v:Int)):=⟨by omega,by omega⟩;obtain ⟨NM,ey⟩:∃S,nmF F ((q:Int)+1)=S:=⟨_,rfl⟩
       obtain ⟨ID,qh⟩:∃S,Lib.itoa (r-(v:Int))=S:=⟨_,rfl⟩
       obtain ⟨T1,cD⟩:∃S,NM++[46]=S:=⟨_,rfl⟩
       obtain ⟨T2,gn⟩:∃S,T1++ID=S:=⟨_,rfl⟩
       obtain ⟨IT,jH⟩:∃S,T2++[zTg L i]=S:=⟨_,rfl⟩
       have iD:=zAM ni;rw [qh] at iD;have hl2:=zBr HP.out.fr (f:=(q:Int)+1) (by omega) (by have:=HK.out;omega);rw [ey] at hl2;have xF:T1.length≤50:=by rw [←cD];simp;omega
       have hl4:T2.length≤100:=by rw [←gn];simp;omega
       have xQ:=zAp cD (bA NM) ⟨#[46]⟩ rfl rfl (by omega) (by simp);have xP:=zAp gn _ _ rfl rfl (by omega) (by omega);have sJ:=zAp jH _ _ rfl rfl (by omega) (by simp)
       have mO:=qH (show Ss++[IT]=zFT F L (i+1) by
        rw [zDV,HS.out,Gw.out]
        unfold zMP
        rw [hq,hr,ey,cD,aR.out,hv,qh,gn,jH])
       have jz:=qH (fun wx (hx:Below V.heap.size V wx)=>zCY (c:=c) ey wx (yk.below hx) HP.out.fr (by omega) (by have:=vy.out;have:=HK.out;omega));have kW:=qH (fun wx (hx:Below V.heap.size V wx)=>zPX qh ni wx (HT.out.below (zAa hby (zAa ai hx ai.size) hby.size)));have jD:k≤400:=by omega
       have vJ:k+1≤1000000:=by omega
       have hk7:k+1≤i+1:=by omega
       have hi7:i+1≤m:=by omega
       have p4:(0:Int)≤(q:Int):=by omega
       have p7:(q:Int) < (K:Int)+2:=by omega
       have w1:IntKind.i64.wrap ((q:Int)+1)=(q:Int)+1:=zLO (by omega);have w2:IntKind.i64.wrap (r-(v:Int))=r-(v:Int):=IntWalk.i64_in _ ni;generalize zTg L i=ar at jH sJ ⊢;clear hq hr hlp hv ey qh cD gn jH iD hl2 xF hl4 eH oK hO1 iv ck HS Gw fG ay pX xO jG hl yk hrk hlf;go_upto_region 17 with fail
       first
        | go_region_held3 (fun wx=>V.grownBy wx (blk A')∧wx.cell? ⟨w.heap.size,0,none⟩=some (.slice A n c)∧wx.cell? ⟨w.heap.size,1,none⟩=some (.int .i64 re)∧wx.cell? ⟨w.heap.size,2,none⟩=some (.int .i64 lo)∧wx.cell? ⟨jw,1,none⟩=some (.int .i64 (q:Int))∧wx.cell? ⟨jw,2,none⟩=some (.int .i64 r)∧wx.cell? ⟨g,q,none⟩=some (.int .i64 (v:Int))) (first | assumption | exact KP.out _ (zBA (zBj _ _)) | exact KP.out _ (by assumption) | exact KP.out _ (zBg (by assumption) _))
          (first
           | (go_at_call 107;refine (jz.out _ (by first | assumption | exact (Below.refl _ _).drew)).mono ?_;rintro e' wy ⟨rfl,jj⟩
              have hbz:Below V.heap.size V wy:=(by first | exact zAa (show Below V.heap.size V _ by assumption) jj (Below.size (show Below V.heap.size V _ by assumption)) | exact zAa (Below.refl V.heap.size V).drew jj (Nat.le_refl _))
              have hgz:V.grownBy wy (blk A'):=zCW hbz _)
           | (go_at_call 124;refine (kW.out _ (by first | assumption | exact (Below.refl _ _).drew)).mono ?_;rintro e' wy ⟨rfl,jj⟩
              have hbz:Below V.heap.size V wy:=(by first | exact zAa (show Below V.heap.size V _ by assumption) jj (Below.size (show Below V.heap.size V _ by assumption)) | exact zAa (Below.refl V.heap.size V).drew jj (Nat.le_refl _))
              have hgz:V.grownBy wy (blk A'):=zCW hbz _)
           | (refine zWf (base:=Y2.heap.size) (A:=A') (n:=k) (c:=c') (Ss:=Ss) rfl (.tmp 57) (.tmp 76) (by rfl) IT (by rfl) (by rfl) (E3.below hbz) (k+1) rfl vJ (Nat.le_trans hzV hbz.size) ?_
              intro A2 c2 w9 hR9 aS cl
              have BO:V.grownBy w9 (blk A'):=zAb (zCW hbz _) cl))
        | fail
       all_goals
        have bX:=(zAa ai hbz ai.size).trans aS;clear E3 ai hbz aS kW jz KP xQ xP sJ f0 f1 f2 e1 e2 e3 w1 w2 BO;go_wp2_with fail
        go_roundw
        case rel=>exact ⟨i+1,_,A2,k+1,c2,Ss++[IT],rfl,hi7,by go_num,by rw [qA.out];rfl,rfl,hR9,bX,hk7,mO⟩
        case measure=>simp [intOf];omega
   ·have j1:¬(i:Int) < (m:Int):=by omega
    have hin:i=m:=by omega
    have qd:Ss=zFT F L L.length:=by rw [HS.out,hin,aR.out]
    have hjl:(Lib.join Ss [32]).length≤140737488355328:=by
     have:=zMr (b:=100) [32] (by simp) (xs:=Ss) (by rw [qd];exact zLQ HP.out (Nat.le_refl _));have h2:=zPW F L L.length;rw [←qd,aR.out] at h2;have:Ss.length*(100+1)≤400*101:=Nat.mul_le_mul (by omega) (by omega);omega
    have HJ:=qH (zMs hR (by omega) hjl);have HR:=qH (show Lib.join Ss [32]=zTh F L by unfold zTh;rw [if_neg (by rw [aR.out];exact HMN.out),qd]);have hbw:=zAa hby hb hby.size;clear hin hlt HS qd hjl hR hb;go_wp2_with fail
    refine HJ.out.mono ?_;rintro e w8 ⟨rfl,cm⟩;have aS:=zAa hbw cm hbw.size;go_wp2_with fail
    go_ret;exact ⟨by rw [HR.out];rfl,aS⟩
def sqS (F:List Fg) (re lo K:Int) (L:List Lt):List UInt8:=if zCU F re lo K L=0 then zTh F L else []
theorem zJp {A:Option Addr} {n c:Nat} {F:List Fg} {re lo K:Int} {B:Option Addr} {m d:Nat} {L:List Lt} {E:Int} (h:zCU F re lo K L=E) (w:World) (hA:Fgs w A n F) (hc:n≤c) (hB:Lets w B m L) :
  Calls Tryz.prog 74 #[frV A n c re lo,.agg #[.int .i64 K,.slice B m d]] w fun e w'=>e=.returned (.int .i64 E)∧Below w.heap.size w w':=by
 subst h;exact zLK A n c F re lo K B m d L w hA hc hB
theorem zLR {A:Option Addr} {n c:Nat} {F:List Fg} {re lo K:Int} {B:Option Addr} {m d:Nat} {L:List Lt} {S:List UInt8} (h:zTh F L=S) (w:World) (hA:Fgs w A n F) (hB:Lets w B m L) (hP:Pos F re lo L) (hK:K=(F.length:Int)) (ht:Tabs w) :
  Calls Tryz.prog 75 #[frV A n c re lo,.agg #[.int .i64 K,.slice B m d]] w fun e w'=>e=.returned (.string (bA S))∧Below w.heap.size w w':=by
 subst h;subst hK;exact zHL A n c F re lo B m d L w hA hB hP ht
set_option maxHeartbeats 3200000 in
theorem zHM (A:Option Addr) (n c:Nat) (F:List Fg) (re lo K:Int) (B:Option Addr) (m d:Nat) (L:List Lt) (w:World) (hA:Fgs w A n F) (hc:n≤c) (hB:Lets w B m L) (ht:Tabs w) :
  Calls Tryz.prog 33 #[frV A n c re lo,.agg #[.int .i64 K,.slice B m d]] w fun e w'=>e=.returned (.tuple #[.string (bA (sqS F re lo K L)),.int .i64 (zCU F re lo K L)])∧Below w.heap.size w w':=by
 have ah:Below w.heap.size w ((w.alloc (.cells #[.slice A n c,.int .i64 re,.int .i64 lo] 24)).alloc (.cells #[.int .i64 K,.slice B m d] 55)):=((Below.refl _ _).alloc (Nat.le_refl _) _).alloc (by simp) _;have hk0:Blk ((w.alloc (.cells #[.slice A n c,.int .i64 re,.int .i64 lo] 24)).alloc (.cells #[.int .i64 K,.slice B m d] 55)) w.heap.size 24 #[.slice A n c,.int .i64 re,.int .i64 lo]:=(Blk.new w _ _).alloc _;have aq:Blk ((w.alloc (.cells #[.slice A n c,.int .i64 re,.int .i64 lo] 24)).alloc (.cells #[.int .i64 K,.slice B m d] 55)) (w.heap.size+1) 55 #[.int .i64 K,.slice B m d]:=heap_alloc2_new w _ _;obtain ⟨E,hE⟩:∃E,zCU F re lo K L=E:=⟨_,rfl⟩
 obtain ⟨S,hS⟩:∃S,zTh F L=S:=⟨_,rfl⟩
 have jO:=qH (fun wx (hx:Fgs wx A n F) (hy:Lets wx B m L)=>zJp (d:=d) hE wx hx hc hy);have HA:=qH hA;have HB:=qH hB;have HT:=qH ht;have HE:=qH hE;have HSE:=qH (fun (h0:E=0) wx (hx:Fgs wx A n F) (hy:Lets wx B m L) (hz:Tabs wx)=>zLR (c:=c) (d:=d) hS wx hx hy (zGh (zHy (hE.trans h0)).1).1 (zGh (zHy (hE.trans h0)).1).2 hz);rw [hE];have HR:=qH (show sqS F re lo K L=if E=0 then S else [] by unfold sqS;rw [hE,hS]);rw [HR.out];obtain ⟨R,hR⟩:∃R,(if E=0 then S else ([]:List UInt8))=R:=⟨_,rfl⟩
 rw [hR];have tg:=qH hR;clear hA hB ht hE hS hc hR HR;go_enter Tryz.func33,Tryz.ntmps33;go_wp2_with fail
 generalize (w.alloc (.cells #[.slice A n c,.int .i64 re,.int .i64 lo] 24)).alloc (.cells #[.int .i64 K,.slice B m d] 55)=Y at ah hk0 aq ⊢;refine (jO.out Y (HA.out.below ah) (HB.out.below ah)).mono ?_;rintro e Y2 ⟨rfl,ai⟩;have al:=zAa ah ai ah.size;have k2:=hk0.below ai hk0.lt;have k3:=aq.below ai aq.lt;clear ai hk0 aq ah;by_cases h0:E=0
 ·have Dm:=qH (HSE.out h0);obtain rfl:S=R:=by have:=tg.out;rwa [if_pos h0] at this
  subst h0;clear tg;obtain ⟨c0,c1⟩:=cQ2 k3;obtain ⟨c2,c3,c4⟩:=cQ3 k2;clear k2 k3;go_wp2_with fail
  refine (Dm.out Y2 (HA.out.below al) (HB.out.below al) (HT.out.below al)).mono ?_;rintro e Y3 ⟨rfl,aI⟩;have aw:=zAa al aI al.size;clear aI c0 c1 c2 c3 c4;go_wp2_with fail
  go_ret2;exact ⟨rfl,aw⟩
 ·have q1:(E != 0)=true:=by simpa using h0
  obtain rfl:[]=R:=by have:=tg.out;rwa [if_neg h0] at this
  clear h0 k2 k3 tg;go_wp2_with fail
  go_ret2;exact ⟨rfl,al⟩
theorem Lets.src {w:World} {A:Option Addr} {n:Nat} {L:List Lt} (h:Lets w A n L):Src w 6 A n (L.flatMap ltC):=by
 refine ⟨by rw [zCc ltC 6 zDt,h.len],fun hn=>?_⟩;obtain ⟨g,o,rfl,hg,hc⟩:=h.2.2.2 hn;refine ⟨_,rfl,hg,fun j u hu=>?_⟩;have hjl:j < L.length*6:=by
  have:=(List.getElem?_eq_some_iff.1 hu).1
  rwa [zCc ltC 6 zDt] at this
 have hx:L[j / 6]? = some (L[j / 6]'(by omega)):=List.getElem?_eq_getElem _;have hf:=zFy ltC 6 zDt L (j / 6) (j % 6) _ hx (Nat.mod_lt _ (by omega));rw [show j / 6*6+j % 6=j by omega,hu] at hf;have ha:=hc (j / 6) _ hx;have hadd:(⟨g,o,none⟩:Addr).add j=⟨g,o+j,none⟩:=Addr.add_lit _ _ _;rw [hadd];have e:j=j / 6*6+j % 6:=by omega
 generalize L[j / 6]'(by omega)=x at *;rcases (show j % 6=0∨j % 6=1∨j % 6=2∨j % 6=3∨j % 6=4∨j % 6=5 by omega) with h6 | h6 | h6 | h6 | h6 | h6<;>rw [h6] at hf e<;>simp [ltC] at hf<;>subst hf
 ·rw [e];exact ha.kind
 ·rw [e];exact ha.gate
 ·rw [e];exact ha.rank
 ·rw [e];exact ha.id
 ·rw [e];exact ha.sign
 ·rw [e];exact ha.over
theorem zWg {w:World} {ops:Array Oper} {rest:List Oper} {o:Oper} {a:Act} {Q':Exit→Act→World→Prop} (hgd:o.guard=none) (s x:Operand)
  (ho:o.op=.call { callee:=.builtin .append,args:=#[s,x],argTypes:=#[53,53] })
  {base:Nat} {A:Option Addr} {n c:Nat} {L:List Lt} (hst:OwnL w base A n c L) {B:Option Addr} {m d:Nat} {M:List Lt} (hM:Lets w B m M) (hs:a.eval s=.slice A n c) (hx:a.eval x=.slice B m d)
  (N:Nat) (hN:n+m=N) (hn:N≤2932031007402) (hbase:base≤w.heap.size)
  (h:∀A' c' w',OwnL w' base A' N c' (L++M)→w.grownBy w' (blk A)→(∀k,blk A'=some k→blk A=some k∨w.heap.size≤k)→wpList Tryz.prog ops Q' rest (a.put o.dst (.slice A' N c')) w') :
  wpList Tryz.prog ops Q' (o :: rest) a w:=by
 obtain ⟨i0,hi,ci,be,cH⟩:=info_parts zMv
 refine zQL hgd s x 53 ho 76 i0 _ 6 48 Tryz.underlying53 hi ci be cH rfl (by decide) hst.row hM.src
  (by
   intro u hu
   obtain ⟨q,_,hq⟩:=List.mem_flatMap.1 hu
   simp [ltC] at hq
   rcases hq with rfl | rfl | rfl | rfl | rfl | rfl<;>rfl) hs hx N hN (by unfold maxLen;omega) (by omega) hbase ?_
 intro A' c' w' h1 h2 h3 _;refine h A' c' w' ⟨by rw [List.flatMap_append];exact h1,fun y hy=>?_,hn⟩ h2 h3;rcases List.mem_append.1 hy with hy | hy
 ·exact hst.fits y hy
 ·exact hM.fits y hy
def zLS (w0:World) (K:Int) (L:List Lt) (e:Ending) (w':World):Prop :=
 ∃B m d,e=.returned (.agg #[.int .i64 K,.slice B m d])∧OwnL w' w0.heap.size B m d L∧Below w0.heap.size w0 w'
def zHF (cr nu:Nat) (L:List Lt) (i:Nat):List Lt:=(L.take i).map (sgL cr nu)++L.drop i
theorem zPY (cr nu:Nat) (L:List Lt):zHF cr nu L 0=L:=by simp [zHF]
theorem zRT (cr nu:Nat) (L:List Lt):zHF cr nu L L.length=zCE cr nu L:=by simp [zHF,zCE]
theorem zPZ {cr nu:Nat} {L:List Lt} {i:Nat} (h:i < L.length):(zHF cr nu L i)[i]? = some (la L i):=by
 unfold zHF;rw [List.getElem?_append_right (by simp;omega)];simp only [List.length_map,List.length_take,Nat.min_eq_left (Nat.le_of_lt h),Nat.sub_self,List.getElem?_drop,Nat.add_zero];unfold la;rw [List.getElem?_eq_getElem h];rfl
theorem zJq (cr nu:Nat) (L:List Lt) {i:Nat} (h:i≤L.length):(zHF cr nu L i).length=L.length:=by
 unfold zHF;rw [List.length_append,List.length_map,List.length_take,List.length_drop];omega
theorem zMQ {cr nu:Nat} {L:List Lt} {i:Nat} (h:i < L.length):(zHF cr nu L i).set i (sgL cr nu (la L i))=zHF cr nu L (i+1):=by
 have hx:L[i]? = some (la L i):=by unfold la;rw [List.getElem?_eq_getElem h];rfl
 apply List.ext_getElem?;intro j;rw [List.getElem?_set];by_cases hj:i=j
 ·subst hj;rw [if_pos rfl,zJq _ _ _ (by omega),if_pos h];unfold zHF;rw [List.getElem?_append_left (by simp;omega),List.getElem?_map,List.getElem?_take_of_lt (by omega),hx];rfl
 ·rw [if_neg hj];unfold zHF;rcases Nat.lt_or_ge j i with h1 | h1
  ·rw [List.getElem?_append_left (by simp;omega),List.getElem?_append_left (by simp;omega),List.getElem?_map,List.getElem?_map,List.getElem?_take_of_lt h1,List.getElem?_take_of_lt (by omega)]
  ·rw [List.getElem?_append_right (by simp;omega),List.getElem?_append_right (by simp;omega)];simp only [List.length_map,List.length_take,List.getElem?_drop]
   congr 1;omega
theorem zQa {cr nu:Nat} {L:List Lt} {i:Nat} (h:i < L.length) (hs:sgL cr nu (la L i)=la L i):zHF cr nu L (i+1)=zHF cr nu L i:=by
 rw [←zMQ h,hs];have:=zPZ (cr:=cr) (nu:=nu) h;exact List.ext_getElem? fun j=>by
  rw [List.getElem?_set];by_cases hj:i=j
  ·subst hj;rw [if_pos rfl,zJq _ _ _ (by omega),if_pos h,this]
  ·rw [if_neg hj]
theorem zQb (q:Nat) (h:q < 4096):bits .and .i64 (q:Int) 1=((q % 2:Nat):Int):=by
 unfold bits;simp only [BitVec.toNat_and,BitVec.toNat_ofInt];have e1:((q:Int) % ((2 ^ IntKind.i64.bits:Nat):Int)).toNat=q:=by
  have:((2 ^ IntKind.i64.bits:Nat):Int)=18446744073709551616:=by decide
  rw [this];omega
 have e2:((1:Int) % ((2 ^ IntKind.i64.bits:Nat):Int)).toNat=1:=by decide
 rw [e1,e2,Nat.and_one_is_mod];exact IntWalk.i64_in _ (by omega)
theorem zWh {w:World} {ops:Array Oper} {o:Oper} {a:Act} {K:Act→World→Prop} {Q':Exit→Act→World→Prop} {E:Prop} (hgd:o.guard=none) (s x:Operand)
  (ho:o.op=.call { callee:=.builtin .append,args:=#[s,x],argTypes:=#[53,53] })
  {base:Nat} {A:Option Addr} {n c:Nat} {L:List Lt} {B:Option Addr} {m d:Nat} {M:List Lt} (hs:a.eval s=.slice A n c) (hx:a.eval x=.slice B m d)
  (hL:OwnL w base A n c L) (hM:Lets w B m M) (N:Nat) (hN:n+m=N) (hn:N≤2932031007402) (hbase:base≤w.heap.size)
  (h:∀A' c' w',OwnL w' base A' N c' (L++M)→w.grownBy w' (blk A)→(∀k,blk A'=some k→blk A=some k∨w.heap.size≤k)→K (a.put o.dst (.slice A' N c')) w') :
  if Region.wanted o (yielded ops a.tmps)=true then Oper.wp Tryz.prog o a w K Q' else E:=by
 obtain ⟨i0,hi,ci,be,cH⟩:=info_parts zMv
 refine zQX hgd s x 53 ho 76 i0 _ 6 48 Tryz.underlying53 hi ci be cH rfl (by decide) hL.row hM.src
  (by
   intro u hu
   obtain ⟨q,_,hq⟩:=List.mem_flatMap.1 hu
   simp [ltC] at hq
   rcases hq with rfl | rfl | rfl | rfl | rfl | rfl<;>rfl) hs hx N hN (by unfold maxLen;omega) (by omega) hbase ?_
 intro A' c' w' h1 h2 h3 _;refine h A' c' w' ⟨by rw [List.flatMap_append];exact h1,fun y hy=>?_,hn⟩ h2 h3;rcases List.mem_append.1 hy with hy | hy
 ·exact hL.fits y hy
 ·exact hM.fits y hy
end Go.Proofs.YtlmdfmnbcndhoaaGreatDoor
