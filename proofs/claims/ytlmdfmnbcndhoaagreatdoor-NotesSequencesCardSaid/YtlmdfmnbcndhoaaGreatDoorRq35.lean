/-
  Lemmas, part 35. Conditions: each theorem's own.
-/
import Derived.Test.YtlmdfmnbcndhoaaGreatDoorRq34
import Derived.Test.YtlmdfmnbcndhoaaGreatDoorRq13
import Derived.Laws.Cover2
import Derived.Lib.SliceRun
open Go.Value renaming bool→G,int→D,slice→H,string→W
open Go.IntKind renaming i64→J
open Option renaming none→U,some→Z
open Bool renaming false→E,true→Q
namespace Go.Proofs.YtlmdfmnbcndhoaaGreatDoor
open Go.RowKit
set_option maxHeartbeats 12800000 in
set_option maxRecDepth 100000 in
theorem zIv (A:Option Addr) (n c:Nat) (F:List Fg) (re lo:Int) (B:Option Addr) (m d:Nat) (L:List Lt) (w:World) (hA:Fgs w A n F) (hB:Lets w B m L) (hP:Pos F re lo L) (ht:Tabs w) :
  Calls Tryz.prog 75 #[frV A n c re lo,.agg #[D J (F.length:Int),H B m d]] w fun e w'=>e=.returned (W (bA (zLo F L)))∧Below w.heap.size w w':=by
 have aa:Below w.heap.size w ((w.alloc (.cells #[H A n c,D J re,D J lo] 24)).alloc (.cells #[D J (F.length:Int),H B m d] 55)):=((Below.refl _ _).alloc (Nat.le_refl _) _).alloc (by simp) _;have hk0:Blk ((w.alloc (.cells #[H A n c,D J re,D J lo] 24)).alloc (.cells #[D J (F.length:Int),H B m d] 55)) w.heap.size 24 #[H A n c,D J re,D J lo]:=(Blk.new w _ _).alloc _;have ag:Blk ((w.alloc (.cells #[H A n c,D J re,D J lo] 24)).alloc (.cells #[D J (F.length:Int),H B m d] 55)) (w.heap.size+1) 55 #[D J (F.length:Int),H B m d]:=heap_alloc2_new w _ _;have aD:L.length=m:=hB.len;have DY:F.length=n:=hA.len;have xD:m≤400:=by have:=hP.lps.len;omega
 have aZ:=qH aD;have HFN:=qH DY;have HP:=qH hP;have HB:=qH hB;have HA:=qH hA;have HT:=qH ht;have ni:=qH (fun wx (hx:Lets wx B m L)=>zSv (c:=d) wx hx hP.lps);have d1:((w.alloc (.cells #[H A n c,D J re,D J lo] 24)).alloc (.cells #[D J (F.length:Int),H B m d] 55)).cell? ⟨w.heap.size+1,1,U⟩=Z (H B m d):=(ag.cell 1).trans rfl;have d0:((w.alloc (.cells #[H A n c,D J re,D J lo] 24)).alloc (.cells #[D J (F.length:Int),H B m d] 55)).cell? ⟨w.heap.size+1,0,U⟩=Z (D J (F.length:Int)):=(ag.cell 0).trans rfl;obtain ⟨K,hK⟩:∃K,F.length=K:=⟨_,rfl⟩
 rw [hK] at aa hk0 ag d0 d1 ni ⊢;have HK:=qH hK;clear aD DY hP hB hA ht hK;by_cases hm0:m=0
 ·subst hm0;have HR:=qH (show zLo F L=zIq by unfold zLo;rw [if_pos aZ.out]);go_enter Tryz.func75,Tryz.ntmps75;go_wp2_with fail
  go_ret;exact ⟨by rw [HR.out];rfl,aa⟩
 ·have i0:((m:Int)==0)=E:=by simp;omega
  go_enter Tryz.func75,Tryz.ntmps75;go_upto_region 3 with fail
  generalize ((w.alloc (.cells #[H A n c,D J re,D J lo] 24)).alloc (.cells #[D J (K:Int),H B m d] 55))=Y at aa hk0 ag d0 d1 ⊢;go_wp2_with fail
  refine (ni.out Y (HB.out.below aa)).mono ?_;rintro e Y2 ⟨g,rfl,hO,ab⟩;have aC:=hk0.below ab hk0.lt;have vw:=ag.below ab ag.lt;have hby:=zAa aa ab aa.size;have hgl:g < Y2.heap.size:=hO.lt;have d2:Y2.cell? ⟨w.heap.size+1,1,U⟩=Z (H B m d):=(vw.cell 1).trans rfl;rw [aZ.out] at hO;have HMN:=qH hm0;clear hk0 ag aa ab d0 d1 ni hm0;go_wp2_with fail
  clear d2;go_loopw [6,7,22] (fun v6 v7 v22 wv=>∃(i:Nat) (X:World) (A':Option Addr) (k c':Nat) (Ss:List (List UInt8)),X=wv∧i≤m∧v22=D J i∧v7=G (!dwn L i)∧v6=H A' k c'∧Row X Y2.heap.size 1 A' k c' (Ss.map zLN)∧Below Y2.heap.size Y2 X∧k≤i∧Hid (Ss=zDH F L i)) (fun _ _ v22 _=>m-(intOf v22).toNat)
  case atStart=>exact ⟨0,_,U,0,0,[],rfl,by omega,rfl,rfl,rfl,Row.none_ _ _ _,Below.refl _ _,Nat.le_refl _,qH rfl⟩
  case round =>
   obtain ⟨i,X,A',k,c',Ss,hX,hi,rfl,rfl,rfl,hR,hb,hki,HS⟩:=hrel;subst hX;by_cases hlt:i < m
   ·have j0:(0:Int)≤(i:Int):=by omega
    have j1:(i:Int) < (m:Int):=by omega
    have hil:i < L.length:=by rw [aZ.out];exact hlt
    have lX:Lets X B m L:=HB.out.below (zAa hby hb hby.size);have hcx:=vw.below hb vw.lt;have hfx:=aC.below hb aC.lt;have hOx:=hO.below hb hgl;obtain ⟨ga,o,rfl,hga,hat,hok⟩:=lX.at_ hlt;obtain ⟨l,hle⟩:∃l,la L i=l:=⟨_,rfl⟩
    rw [hle] at hat;have wR:=qH hle;obtain ⟨x0,x1,x2,x3,x4,x5⟩:=hat;have hbl:=(Below.refl X.heap.size X).alloc (Nat.le_refl _) (.cells #[D J l.kind,D J l.gate,D J l.rank,D J l.id,D J l.sign,G l.over] 76);have bg:Blk (X.alloc (.cells #[D J l.kind,D J l.gate,D J l.rank,D J l.id,D J l.sign,G l.over] 76)) X.heap.size 76 #[D J l.kind,D J l.gate,D J l.rank,D J l.id,D J l.sign,G l.over]:=Blk.new _ _ _;have hc1:=hcx.below hbl hcx.lt;have dk:=hfx.below hbl hfx.lt;have lx:=hOx.below hbl hOx.lt;have ji:=lX.below hbl;have dP:=hR.below hbl;have aj:=zAa hb hbl hb.size;have az:Y2.heap.size≤(X.alloc (.cells #[D J l.kind,D J l.gate,D J l.rank,D J l.id,D J l.sign,G l.over] 76)).heap.size:=aj.size;obtain ⟨dw,hd⟩:∃d,dwn L i=d:=⟨_,rfl⟩
    rw [hd];clear hbl hcx hfx hOx lX hR hok hb;go_upto_if 29 with fail
    clear x0 x1 x2 x3 x4 x5;generalize X.alloc (.cells #[D J l.kind,D J l.gate,D J l.rank,D J l.id,D J l.sign,G l.over] 76)=X1 at bg hc1 dk lx ji dP aj az ⊢;generalize X.heap.size=a9 at bg ⊢;by_cases hk2:l.kind=2
    ·have q2:(l.kind==2)=Q:=by simpa using hk2
     have hcr:isC (la L i)=Q:=by rw [hle];exact zKl hk2
     have hid:=HP.out.id i hil hcr;rw [hle] at hid;have ly:I64 l.id:=⟨by omega,by omega⟩;have ju:=qH (show dwn L (i+1)=dw by rw [zVO (zLs hcr),hd]);obtain ⟨-,-,-,u0,-,u1⟩:=cQ6 bg;obtain ⟨ID,ow⟩:∃S,Lib.itoa l.id=S:=⟨_,rfl⟩
     obtain ⟨LE,xV⟩:∃S,zAX l.over=S:=⟨_,rfl⟩
     obtain ⟨IT,lW⟩:∃S,ID++LE=S:=⟨_,rfl⟩
     have eN:=zBb ly;have eB:=zCC l.over;rw [ow] at eN;rw [xV] at eB;have hcat:=zAF lW _ _ rfl rfl (by omega) (by omega)
     have nH:=qH (show Ss++[IT]=zDH F L (i+1) by
      rw [zDj,HS.out]
      unfold zGx zUP
      rw [if_pos hcr,hle,←lW,←ow,←xV,show zAX l.over=[if l.over then 111 else 117] by cases l.over<;>rfl])
     have ii:=qH (fun wx (hx:Below X1.heap.size X1 wx)=>zQF ow ly wx (HT.out.below (zAa hby (zAa aj hx aj.size) hby.size)));have fk:=qH (fun wx=>zCY xV wx)
     have KP:=qH (show ∀wx,Below X1.heap.size X1 wx→(wx.cell? ⟨a9,3,U⟩=Z (D J l.id)∧wx.cell? ⟨a9,5,U⟩=Z (G l.over)) from
      fun wx h=>⟨((bg.below h bg.lt).cell 3).trans rfl,((bg.below h bg.lt).cell 5).trans rfl⟩)
     have fK:k≤400:=by omega
     clear hk2 hcr hid hle ow xV lW eN eB hd dk hc1 lx ji bg HS;go_upto_region 10 with fail
     go_region_law (first
      | ((go_simp;go_at_call 124;refine (ii.out _ (by first | exact hbz | exact (Below.refl _ _).drew)).mono ?_;rintro e' wy ⟨rfl,gL⟩)
         have hbz:Below X1.heap.size X1 wy:=(by first | exact zAa hbz gL hbz.size | exact zAa (Below.refl X1.heap.size X1).drew gL (Nat.le_refl _))
         obtain ⟨u2,u3⟩:=KP.out _ hbz)
      | ((go_simp;go_at_call 115;refine (fk.out _).mono ?_;rintro e' wv ⟨rfl,rfl⟩))
      | ((refine zWC (base:=Y2.heap.size) (A:=A') (n:=k) (c:=c') (Ss:=Ss) rfl (.tmp 30) (.tmp 38) (by rfl) IT (by rfl) (by rfl) (dP.below hbz) (k+1) rfl (by omega) (Nat.le_trans az hbz.size) ?_)
         intro A2 c2 w9 hR9 aP bx))
     all_goals
      have bW:=(zAa aj hbz aj.size).trans aP;clear dP aj hbz aP ii fk KP hcat;go_wp2_with fail
      go_roundw
      case rel=>exact ⟨i+1,_,A2,k+1,c2,Ss++[IT],rfl,by omega,by go_num,by rw [ju.out],rfl,hR9,bW,by omega,nH⟩
      case measure=>simp [intOf];omega
    ·have q2:(l.kind==2)=E:=by simpa using hk2
     have hncr:isC (la L i)=E:=by rw [hle];exact zKm hk2
     have hp:=(HP.out.kinds i hil).resolve_right (by rw [hncr];simp);have ju:=qH (show dwn L (i+1) = !dw by rw [zPe hp,hd])
     cases dw with
     | false =>
      have nH:=qH (show Ss=zDH F L (i+1) by
       rw [zDj,HS.out]
       unfold zGx
       rw [hncr,hd];simp)
      clear hk2 hncr hp hd hle dk hc1 lx ji bg HS;go_wp2_with fail
      go_roundw
      case rel=>exact ⟨i+1,_,A',k,c',Ss,rfl,by omega,by go_num,by rw [ju.out];rfl,rfl,dP,aj,by omega,nH⟩
      case measure=>simp [intOf];omega
     | true =>
      obtain ⟨k1,k2⟩:=HP.out.lps.arcs i hil hp hd;have Do:i+1 < m:=by rw [←aZ.out];exact k1
      have mc:=qH (HP.out.left i hil hp hd)
      have HRK:=qH (show 1≤(zBL L i).rank∧(zBL L i).rank≤400 by
       unfold zBL
       split
       ·exact HP.out.rank (i+1) k1 k2
       ·exact HP.out.rank i hil hp)
      obtain ⟨lu,hlu⟩:∃l,la L (i+1)=l:=⟨_,rfl⟩
      have E9:=qH hlu;clear k2;have rg:=qH (show zGx F L i=[zKP F L i] by unfold zGx;rw [hncr,hd];simp);have p1:(0:Int)≤(i:Int)+1:=by omega
      have p2:(i:Int)+1 < (m:Int):=by omega
      have p3:wrap64 ((i:Int)+1)=(i:Int)+1:=by unfold wrap64;omega
      obtain ⟨x0,x1,x2,x3,x4,x5⟩:=cQ6 bg;have c1:X1.cell? ⟨w.heap.size+1,1,U⟩=Z (H (Z ⟨ga,o,U⟩) m d):=(hc1.cell 1).trans rfl;have hbl:=(Below.refl X1.heap.size X1).alloc (Nat.le_refl _) (.cells #[D J l.kind,D J l.gate,D J l.rank,D J l.id,D J l.sign,G l.over] 76);have ln:Blk (X1.alloc (.cells #[D J l.kind,D J l.gate,D J l.rank,D J l.id,D J l.sign,G l.over] 76)) X1.heap.size 76 #[D J l.kind,D J l.gate,D J l.rank,D J l.id,D J l.sign,G l.over]:=Blk.new _ _ _;have bK:=bg.below hbl bg.lt;have rW:=hc1.below hbl hc1.lt;have sF:=ji.below hbl;have uI:X1.heap.size≤X1.heap.size:=Nat.le_refl _;clear hk2 hncr hp hd hle;go_upto_region 14 with fail
      clear x0 x1 x2 x3 x4 x5 c1;generalize tC:X1.alloc (.cells #[D J l.kind,D J l.gate,D J l.rank,D J l.id,D J l.sign,G l.over] 76)=X2 at ln bK rW sF hbl ⊢;clear tC;obtain ⟨gZ,sr⟩:∃a,X1.heap.size=a:=⟨_,rfl⟩
      rw [sr] at ln hbl uI ⊢;have xe:=qH sr;clear sr;have c1:X2.cell? ⟨w.heap.size+1,1,U⟩=Z (H (Z ⟨ga,o,U⟩) m d):=(rW.cell 1).trans rfl;have hU:=(sF.also Do).1;rw [hlu] at hU;obtain ⟨x0,x1,x2,x3,x4,x5⟩:=hU;clear hlu;have nZ:=(Below.refl X2.heap.size X2).alloc (Nat.le_refl _) (.cells #[D J lu.kind,D J lu.gate,D J lu.rank,D J lu.id,D J lu.sign,G lu.over] 76);have cR:Blk (X2.alloc (.cells #[D J lu.kind,D J lu.gate,D J lu.rank,D J lu.id,D J lu.sign,G lu.over] 76)) X2.heap.size 76 #[D J lu.kind,D J lu.gate,D J lu.rank,D J lu.id,D J lu.sign,G lu.over]:=Blk.new _ _ _;have dS:=bK.below nZ bK.lt;have aW:=ln.below nZ ln.lt;have bU:Below gZ X1 (X2.alloc (.cells #[D J lu.kind,D J lu.gate,D J lu.rank,D J lu.id,D J lu.sign,G lu.over] 76)):=zAa hbl nZ (Nat.le_of_lt ln.lt);go_upto_region 15 with fail
      clear x0 x1 x2 x3 x4 x5 c1 nZ hbl ln bK rW sF;generalize hX3:X2.alloc (.cells #[D J lu.kind,D J lu.gate,D J lu.rank,D J lu.id,D J lu.sign,G lu.over] 76)=X3 at cR dS aW bU ⊢;clear hX3;generalize X2.heap.size=a12 at cR ⊢;have g9:X3.cell? ⟨a9,1,U⟩=Z (D J l.gate):=(dS.cell 1).trans rfl;have y1:X3.cell? ⟨a12,1,U⟩=Z (D J lu.gate):=(cR.cell 1).trans rfl;go_upto_if 55 with fail
      go_cut [11] (fun v11 wv=>v11=W (bA [zSk L i])∧∃V:World,V=wv∧Blk V gZ 76 #[D J (zBL L i).kind,D J (zBL L i).gate,D J (zBL L i).rank,D J (zBL L i).id,D J (zBL L i).sign,G (zBL L i).over]∧Below gZ X1 V)
      case first =>
       by_cases hlt2:lu.gate < l.gate
       ·have de:=qH (show zBL L i=lu∧zSk L i=60 by unfold zBL zSk;rw [E9.out,wR.out,if_pos hlt2,if_pos hlt2];exact ⟨rfl,rfl⟩);clear y1 g9 p1 p2 p3 j0 j1 k1 Do;go_upto_region 16 with fail
        have Cv:=qH aW;have kZ:=qH bU;obtain ⟨y0,y1,y2,y3,y4,y5⟩:=cQ6 cR;have v0:X3.cell? ⟨gZ,0,U⟩=Z (D J (l).kind):=(aW.cell 0).trans rfl;have z0:=aW.frozen 0;have v1:X3.cell? ⟨gZ,1,U⟩=Z (D J (l).gate):=(aW.cell 1).trans rfl;have z1:=aW.frozen 1;have v2:X3.cell? ⟨gZ,2,U⟩=Z (D J (l).rank):=(aW.cell 2).trans rfl;have z2:=aW.frozen 2;have v3:X3.cell? ⟨gZ,3,U⟩=Z (D J (l).id):=(aW.cell 3).trans rfl;have z3:=aW.frozen 3;have v4:X3.cell? ⟨gZ,4,U⟩=Z (D J (l).sign):=(aW.cell 4).trans rfl;have z4:=aW.frozen 4;have v5:X3.cell? ⟨gZ,5,U⟩=Z (G (l).over):=(aW.cell 5).trans rfl;have z5:=aW.frozen 5;clear cR dS aW bU hlt2;go_wp2_with fail
        have SV:=zQA Cv.out (D J (lu).kind) (D J (lu).gate) (D J (lu).rank) (D J (lu).id) (D J (lu).sign) (G (lu).over);have BV:=zQB kZ.out uI (D J (lu).kind) (D J (lu).gate) (D J (lu).rank) (D J (lu).id) (D J (lu).sign) (G (lu).over);go_meet
        case rel=>exact ⟨by rw [de.out.2];rfl,_,rfl,by rw [de.out.1];exact SV,BV⟩
       ·have de:=qH (show zBL L i=l∧zSk L i=62 by unfold zBL zSk;rw [E9.out,wR.out,if_neg hlt2,if_neg hlt2];exact ⟨rfl,rfl⟩);have SV:=qH aW;have BV:=qH bU;clear cR dS aW bU y1 g9;go_wp2_with fail
        go_meet
        case rel=>exact ⟨by rw [de.out.2];rfl,_,rfl,by rw [de.out.1];exact SV.out,BV.out⟩
      case rest =>
       clear cR dS aW bU g9 y1 p3;obtain ⟨rfl,V,hV,hl,n8⟩:=hcut;have hlf:=mc.out;have hrk:=HRK.out;subst hV;rw [←xe.out] at n8;have vq:=dk.below n8 dk.lt;have mQ:=lx.below n8 lx.lt;have DI:=dP.below n8;have ab:=zAa aj n8 aj.size;have hzV:Y2.heap.size≤V.heap.size:=ab.size;have vX:Fgs V A n F:=HA.out.below (zAa hby ab hby.size);obtain ⟨q,hq⟩:∃q:Nat,(zBL L i).gate=(q:Int):=⟨(zBL L i).gate.toNat,by omega⟩
       have hqK:q < K:=by have:=HK.out;omega
       have hK4:K≤40:=by have:=HP.out.lps.k40;have:=HK.out;omega
       obtain ⟨r,hr⟩:∃r,(zBL L i).rank=r:=⟨_,rfl⟩
       have hlp:=zFE K L m (g:=q) (by omega);have hll:=zQn L (q:Int) m;obtain ⟨v,hv⟩:∃v,lpC L (q:Int) m=v:=⟨_,rfl⟩
       rw [hv] at hlp hll;rw [hr] at hrk;obtain ⟨f0,f1,f2⟩:=cQ3 vq;have e1:V.cell? ⟨gZ,1,U⟩=Z (D J (q:Int)):=by rw [←hq];exact (hl.cell 1).trans rfl
       have e2:V.cell? ⟨gZ,2,U⟩=Z (D J r):=by rw [←hr];exact (hl.cell 2).trans rfl
       have e3:V.cell? ⟨g,q,U⟩=Z (D J (v:Int)):=mQ.cell hlp;have rF:∀x,x < V.heap.size→(∀k',blk A'=Z k'→k'≠x)→∀wx,V.grownBy wx (blk A')→∀q',wx.cell? ⟨x,q',U⟩=V.cell? ⟨x,q',U⟩:=fun x hx hne wx h q'=>World.cell?_of_block (w:=V) (w':=wx) (a:=⟨x,q',U⟩) (h.block x hx (fun e=>hne x e.symm rfl))
       have fc:∀k',blk A'=Z k'→Y2.heap.size≤k'∧k' < gZ:=fun k' eD=>⟨(dP.lt k' eD).1,by rw [←xe.out];exact (dP.lt k' eD).2⟩
       have nM:w.heap.size < Y2.heap.size:=aC.lt
       have KP:=qH (show ∀wx,V.grownBy wx (blk A')→(V.grownBy wx (blk A')∧wx.cell? ⟨w.heap.size,0,U⟩=Z (H A n c)∧wx.cell? ⟨w.heap.size,1,U⟩=Z (D J re)∧wx.cell? ⟨w.heap.size,2,U⟩=Z (D J lo)∧wx.cell? ⟨gZ,1,U⟩=Z (D J (q:Int))∧wx.cell? ⟨gZ,2,U⟩=Z (D J r)∧wx.cell? ⟨g,q,U⟩=Z (D J (v:Int))) from
        fun wx h=>⟨h,(rF _ vq.lt (fun k' eD=>by have:=fc k' eD;omega) wx h _).trans f0,(rF _ vq.lt (fun k' eD=>by have:=fc k' eD;omega) wx h _).trans f1,(rF _ vq.lt (fun k' eD=>by have:=fc k' eD;omega) wx h _).trans f2,(rF _ hl.lt (fun k' eD=>by have:=fc k' eD;omega) wx h _).trans e1,(rF _ hl.lt (fun k' eD=>by have:=fc k' eD;omega) wx h _).trans e2,(rF _ mQ.lt (fun k' eD=>by have:=fc k' eD;omega) wx h _).trans e3⟩)
       clear rF fc;have ly:I64 (r-(v:Int)):=⟨by omega,by omega⟩;obtain ⟨NM,dy⟩:∃S,nmF F ((q:Int)+1)=S:=⟨_,rfl⟩
       obtain ⟨ID,ow⟩:∃S,Lib.itoa (r-(v:Int))=S:=⟨_,rfl⟩
       obtain ⟨T1,cQ⟩:∃S,NM++[46]=S:=⟨_,rfl⟩
       obtain ⟨T2,eF⟩:∃S,T1++ID=S:=⟨_,rfl⟩
       obtain ⟨IT,lW⟩:∃S,T2++[zSk L i]=S:=⟨_,rfl⟩
       have eN:=zBb ly;rw [ow] at eN;have eB:=zBJ HP.out.fr (f:=(q:Int)+1) (by omega) (by have:=HK.out;omega);rw [dy] at eB;have lj:T1.length≤50:=by rw [←cQ];simp;omega
       have rN:T2.length≤100:=by rw [←eF];simp;omega
       have vu:=zAF cQ (bA NM) ⟨#[46]⟩ rfl rfl (by omega) (by simp);have vt:=zAF eF _ _ rfl rfl (by omega) (by omega);have qI:=zAF lW _ _ rfl rfl (by omega) (by simp)
       have nH:=qH (show Ss++[IT]=zDH F L (i+1) by
        rw [zDj,HS.out,rg.out]
        unfold zKP
        rw [hq,hr,dy,cQ,aZ.out,hv,ow,eF,lW])
       have kV:=qH (fun wx (hx:Below V.heap.size V wx)=>zDq (c:=c) dy wx (vX.below hx) HP.out.fr (by omega) (by have:=HFN.out;have:=HK.out;omega));have ii:=qH (fun wx (hx:Below V.heap.size V wx)=>zQF ow ly wx (HT.out.below (zAa hby (zAa ab hx ab.size) hby.size)));have fK:k≤400:=by omega
       have tr:k+1≤1000000:=by omega
       have zX:k+1≤i+1:=by omega
       have hi7:i+1≤m:=by omega
       have p4:(0:Int)≤(q:Int):=by omega
       have p7:(q:Int) < (K:Int)+2:=by omega
       have w1:IntKind.i64.wrap ((q:Int)+1)=(q:Int)+1:=zMk (by omega);have w2:IntKind.i64.wrap (r-(v:Int))=r-(v:Int):=IntWalk.i64_in _ ly;generalize zSk L i=ar at lW qI ⊢;clear hq hr hlp hv dy ow cQ eF lW eN eB lj rN dk hc1 lx ji bg HS rg dP aj n8 vq mQ hl vX hrk hlf;go_upto_region 17 with fail
       first
        | go_region_held3 (fun wx=>V.grownBy wx (blk A')∧wx.cell? ⟨w.heap.size,0,U⟩=Z (H A n c)∧wx.cell? ⟨w.heap.size,1,U⟩=Z (D J re)∧wx.cell? ⟨w.heap.size,2,U⟩=Z (D J lo)∧wx.cell? ⟨gZ,1,U⟩=Z (D J (q:Int))∧wx.cell? ⟨gZ,2,U⟩=Z (D J r)∧wx.cell? ⟨g,q,U⟩=Z (D J (v:Int))) (first | assumption | exact KP.out _ (zBS (zBw _ _)) | exact KP.out _ (by assumption) | exact KP.out _ (zBu (by assumption) _))
          (first
           | (go_at_call 107;refine (kV.out _ (by first | assumption | exact (Below.refl _ _).drew)).mono ?_;rintro e' wy ⟨rfl,gL⟩
              have hbz:Below V.heap.size V wy:=(by first | exact zAa (show Below V.heap.size V _ by assumption) gL (Below.size (show Below V.heap.size V _ by assumption)) | exact zAa (Below.refl V.heap.size V).drew gL (Nat.le_refl _))
              have hgz:V.grownBy wy (blk A'):=zDM hbz _)
           | (go_at_call 124;refine (ii.out _ (by first | assumption | exact (Below.refl _ _).drew)).mono ?_;rintro e' wy ⟨rfl,gL⟩
              have hbz:Below V.heap.size V wy:=(by first | exact zAa (show Below V.heap.size V _ by assumption) gL (Below.size (show Below V.heap.size V _ by assumption)) | exact zAa (Below.refl V.heap.size V).drew gL (Nat.le_refl _))
              have hgz:V.grownBy wy (blk A'):=zDM hbz _)
           | (refine zWC (base:=Y2.heap.size) (A:=A') (n:=k) (c:=c') (Ss:=Ss) rfl (.tmp 57) (.tmp 76) (by rfl) IT (by rfl) (by rfl) (DI.below hbz) (k+1) rfl tr (Nat.le_trans hzV hbz.size) ?_
              intro A2 c2 w9 hR9 aP bx
              have Ab:V.grownBy w9 (blk A'):=zAb (zDM hbz _) bx))
        | fail
       all_goals
        have bW:=(zAa ab hbz ab.size).trans aP;clear DI ab hbz aP ii kV KP vu vt qI f0 f1 f2 e1 e2 e3 w1 w2 Ab;go_wp2_with fail
        go_roundw
        case rel=>exact ⟨i+1,_,A2,k+1,c2,Ss++[IT],rfl,hi7,by go_num,by rw [ju.out];rfl,rfl,hR9,bW,zX,nH⟩
        case measure=>simp [intOf];omega
   ·have j1:¬(i:Int) < (m:Int):=by omega
    have hin:i=m:=by omega
    have oj:Ss=zDH F L L.length:=by rw [HS.out,hin,aZ.out]
    have hjl:(Lib.join Ss [32]).length≤140737488355328:=by
     have:=zMU (b:=100) [32] (by simp) (xs:=Ss) (by rw [oj];exact zMm HP.out (Nat.le_refl _));have h2:=zQE F L L.length;rw [←oj,aZ.out] at h2;have:Ss.length*(100+1)≤400*101:=Nat.mul_le_mul (by omega) (by omega);omega
    have HJ:=qH (zMV hR (by omega) hjl);have HR:=qH (show Lib.join Ss [32]=zLo F L by unfold zLo;rw [if_neg (by rw [aZ.out];exact HMN.out),oj]);have hbw:=zAa hby hb hby.size;clear hin hlt HS oj hjl hR hb;go_wp2_with fail
    refine HJ.out.mono ?_;rintro e w8 ⟨rfl,bc⟩;have aP:=zAa hbw bc hbw.size;go_wp2_with fail
    go_ret;exact ⟨by rw [HR.out];rfl,aP⟩
def sqS (F:List Fg) (re lo K:Int) (L:List Lt):List UInt8:=if zBr F re lo K L=0 then zLo F L else []
theorem zJQ {A:Option Addr} {n c:Nat} {F:List Fg} {re lo K:Int} {B:Option Addr} {m d:Nat} {L:List Lt} {ZT:Int} (h:zBr F re lo K L=ZT) (w:World) (hA:Fgs w A n F) (hc:n≤c) (hB:Lets w B m L) :
  Calls Tryz.prog 74 #[frV A n c re lo,.agg #[D J K,H B m d]] w fun e w'=>e=.returned (D J ZT)∧Below w.heap.size w w':=by
 subst h;exact zMj A n c F re lo K B m d L w hA hc hB
theorem zMn {A:Option Addr} {n c:Nat} {F:List Fg} {re lo K:Int} {B:Option Addr} {m d:Nat} {L:List Lt} {S:List UInt8} (h:zLo F L=S) (w:World) (hA:Fgs w A n F) (hB:Lets w B m L) (hP:Pos F re lo L) (hK:K=(F.length:Int)) (ht:Tabs w) :
  Calls Tryz.prog 75 #[frV A n c re lo,.agg #[D J K,H B m d]] w fun e w'=>e=.returned (W (bA S))∧Below w.heap.size w w':=by
 subst h;subst hK;exact zIv A n c F re lo B m d L w hA hB hP ht
set_option maxHeartbeats 3200000 in
theorem zEF (A:Option Addr) (n c:Nat) (F:List Fg) (re lo K:Int) (B:Option Addr) (m d:Nat) (L:List Lt) (w:World) (hA:Fgs w A n F) (hc:n≤c) (hB:Lets w B m L) (ht:Tabs w) :
  Calls Tryz.prog 33 #[frV A n c re lo,.agg #[D J K,H B m d]] w fun e w'=>e=.returned (.tuple #[W (bA (sqS F re lo K L)),D J (zBr F re lo K L)])∧Below w.heap.size w w':=by
 have aa:Below w.heap.size w ((w.alloc (.cells #[H A n c,D J re,D J lo] 24)).alloc (.cells #[D J K,H B m d] 55)):=((Below.refl _ _).alloc (Nat.le_refl _) _).alloc (by simp) _;have hk0:Blk ((w.alloc (.cells #[H A n c,D J re,D J lo] 24)).alloc (.cells #[D J K,H B m d] 55)) w.heap.size 24 #[H A n c,D J re,D J lo]:=(Blk.new w _ _).alloc _;have ag:Blk ((w.alloc (.cells #[H A n c,D J re,D J lo] 24)).alloc (.cells #[D J K,H B m d] 55)) (w.heap.size+1) 55 #[D J K,H B m d]:=heap_alloc2_new w _ _;obtain ⟨ZT,hE⟩:∃ZT,zBr F re lo K L=ZT:=⟨_,rfl⟩
 obtain ⟨S,hS⟩:∃S,zLo F L=S:=⟨_,rfl⟩
 have nf:=qH (fun wx (hx:Fgs wx A n F) (hy:Lets wx B m L)=>zJQ (d:=d) hE wx hx hc hy);have HA:=qH hA;have HB:=qH hB;have HT:=qH ht;have HE:=qH hE;have HSE:=qH (fun (h0:ZT=0) wx (hx:Fgs wx A n F) (hy:Lets wx B m L) (hz:Tabs wx)=>zMn (c:=c) (d:=d) hS wx hx hy (zGL (zEZ (hE.trans h0)).1).1 (zGL (zEZ (hE.trans h0)).1).2 hz);rw [hE];have HR:=qH (show sqS F re lo K L=if ZT=0 then S else [] by unfold sqS;rw [hE,hS]);rw [HR.out];obtain ⟨R,hR⟩:∃R,(if ZT=0 then S else ([]:List UInt8))=R:=⟨_,rfl⟩
 rw [hR];have rh:=qH hR;clear hA hB ht hE hS hc hR HR;go_enter Tryz.func33,Tryz.ntmps33;go_wp2_with fail
 generalize (w.alloc (.cells #[H A n c,D J re,D J lo] 24)).alloc (.cells #[D J K,H B m d] 55)=Y at aa hk0 ag ⊢;refine (nf.out Y (HA.out.below aa) (HB.out.below aa)).mono ?_;rintro e Y2 ⟨rfl,ab⟩;have ac:=zAa aa ab aa.size;have k2:=hk0.below ab hk0.lt;have k3:=ag.below ab ag.lt;clear ab hk0 ag aa;by_cases h0:ZT=0
 ·have B7:=qH (HSE.out h0);obtain rfl:S=R:=by have:=rh.out;rwa [if_pos h0] at this
  subst h0;clear rh;obtain ⟨c0,c1⟩:=cQ2 k3;obtain ⟨c2,c3,c4⟩:=cQ3 k2;clear k2 k3;go_wp2_with fail
  refine (B7.out Y2 (HA.out.below ac) (HB.out.below ac) (HT.out.below ac)).mono ?_;rintro e Y3 ⟨rfl,ah⟩;have ai:=zAa ac ah ac.size;clear ah c0 c1 c2 c3 c4;go_wp2_with fail
  go_ret2;exact ⟨rfl,ai⟩
 ·have q1:(ZT != 0)=Q:=by simpa using h0
  obtain rfl:[]=R:=by have:=rh.out;rwa [if_neg h0] at this
  clear h0 k2 k3 rh;go_wp2_with fail
  go_ret2;exact ⟨rfl,ac⟩
theorem Lets.src {w:World} {A:Option Addr} {n:Nat} {L:List Lt} (h:Lets w A n L):Src w 6 A n (L.flatMap ltC):=by
 refine ⟨by rw [zDs ltC 6 zDT,h.len],fun hn=>?_⟩;obtain ⟨g,o,rfl,hg,hc⟩:=h.2.2.2 hn;refine ⟨_,rfl,hg,fun j u hu=>?_⟩;have hjl:j < L.length*6:=by
  have:=(List.getElem?_eq_some_iff.1 hu).1
  rwa [zDs ltC 6 zDT] at this
 have hx:L[j / 6]? = Z (L[j / 6]'(by omega)):=List.getElem?_eq_getElem _;have hf:=zEP ltC 6 zDT L (j / 6) (j % 6) _ hx (Nat.mod_lt _ (by omega));rw [show j / 6*6+j % 6=j by omega,hu] at hf;have ha:=hc (j / 6) _ hx;have hadd:(⟨g,o,U⟩:Addr).add j=⟨g,o+j,U⟩:=Addr.add_lit _ _ _;rw [hadd];have e:j=j / 6*6+j % 6:=by omega
 generalize L[j / 6]'(by omega)=x at *;rcases (show j % 6=0∨j % 6=1∨j % 6=2∨j % 6=3∨j % 6=4∨j % 6=5 by omega) with h6 | h6 | h6 | h6 | h6 | h6<;>rw [h6] at hf e<;>simp [ltC] at hf<;>subst hf
 ·rw [e];exact ha.kind
 ·rw [e];exact ha.gate
 ·rw [e];exact ha.rank
 ·rw [e];exact ha.id
 ·rw [e];exact ha.sign
 ·rw [e];exact ha.over
theorem zWD {w:World} {ops:Array Oper} {rest:List Oper} {o:Oper} {a:Act} {Q':Exit→Act→World→Prop} (hgd:o.guard=U) (s x:Operand)
  (ho:o.op=.call { callee:=.builtin .append,args:=#[s,x],argTypes:=#[53,53] })
  {base:Nat} {A:Option Addr} {n c:Nat} {L:List Lt} (hst:OwnL w base A n c L) {B:Option Addr} {m d:Nat} {M:List Lt} (hM:Lets w B m M) (hs:a.eval s=H A n c) (hx:a.eval x=H B m d)
  (N:Nat) (hN:n+m=N) (hn:N≤2932031007402) (hbase:base≤w.heap.size)
  (h:∀A' c' w',OwnL w' base A' N c' (L++M)→w.grownBy w' (blk A)→(∀k,blk A'=Z k→blk A=Z k∨w.heap.size≤k)→wpList Tryz.prog ops Q' rest (a.put o.dst (H A' N c')) w') :
  wpList Tryz.prog ops Q' (o :: rest) a w:=by
 obtain ⟨i0,hi,aQ,az,bi⟩:=info_parts zMX
 refine zPn hgd s x 53 ho 76 i0 _ 6 48 Tryz.underlying53 hi aQ az bi rfl (by decide) hst.row hM.src
  (by
   intro u hu
   obtain ⟨q,_,hq⟩:=List.mem_flatMap.1 hu
   simp [ltC] at hq
   rcases hq with rfl | rfl | rfl | rfl | rfl | rfl<;>rfl) hs hx N hN (by unfold maxLen;omega) (by omega) hbase ?_
 intro A' c' w' h1 h2 h3 _;refine h A' c' w' ⟨by rw [List.flatMap_append];exact h1,fun y hy=>?_,hn⟩ h2 h3;rcases List.mem_append.1 hy with hy | hy
 ·exact hst.fits y hy
 ·exact hM.fits y hy
def zMo (w0:World) (K:Int) (L:List Lt) (e:Ending) (w':World):Prop :=
 ∃B m d,e=.returned (.agg #[D J K,H B m d])∧OwnL w' w0.heap.size B m d L∧Below w0.heap.size w0 w'
def zIk (cr nu:Nat) (L:List Lt) (i:Nat):List Lt:=(L.take i).map (sgL cr nu)++L.drop i
theorem zQG (cr nu:Nat) (L:List Lt):zIk cr nu L 0=L:=by simp [zIk]
theorem zSw (cr nu:Nat) (L:List Lt):zIk cr nu L L.length=zCS cr nu L:=by simp [zIk,zCS]
theorem zQH {cr nu:Nat} {L:List Lt} {i:Nat} (h:i < L.length):(zIk cr nu L i)[i]? = Z (la L i):=by
 unfold zIk;rw [List.getElem?_append_right (by simp;omega)];simp only [List.length_map,List.length_take,Nat.min_eq_left (Nat.le_of_lt h),Nat.sub_self,List.getElem?_drop,Nat.add_zero];unfold la;rw [List.getElem?_eq_getElem h];rfl
theorem zJR (cr nu:Nat) (L:List Lt) {i:Nat} (h:i≤L.length):(zIk cr nu L i).length=L.length:=by
 unfold zIk;rw [List.length_append,List.length_map,List.length_take,List.length_drop];omega
theorem zNp {cr nu:Nat} {L:List Lt} {i:Nat} (h:i < L.length):(zIk cr nu L i).set i (sgL cr nu (la L i))=zIk cr nu L (i+1):=by
 have hx:L[i]? = Z (la L i):=by unfold la;rw [List.getElem?_eq_getElem h];rfl
 apply List.ext_getElem?;intro j;rw [List.getElem?_set];by_cases hj:i=j
 ·subst hj;rw [if_pos rfl,zJR _ _ _ (by omega),if_pos h];unfold zIk;rw [List.getElem?_append_left (by simp;omega),List.getElem?_map,List.getElem?_take_of_lt (by omega),hx];rfl
 ·rw [if_neg hj];unfold zIk;rcases Nat.lt_or_ge j i with h1 | h1
  ·rw [List.getElem?_append_left (by simp;omega),List.getElem?_append_left (by simp;omega),List.getElem?_map,List.getElem?_map,List.getElem?_take_of_lt h1,List.getElem?_take_of_lt (by omega)]
  ·rw [List.getElem?_append_right (by simp;omega),List.getElem?_append_right (by simp;omega)];simp only [List.length_map,List.length_take,List.getElem?_drop]
   congr 1;omega
theorem zQI {cr nu:Nat} {L:List Lt} {i:Nat} (h:i < L.length) (hs:sgL cr nu (la L i)=la L i):zIk cr nu L (i+1)=zIk cr nu L i:=by
 rw [←zNp h,hs];have:=zQH (cr:=cr) (nu:=nu) h;exact List.ext_getElem? fun j=>by
  rw [List.getElem?_set];by_cases hj:i=j
  ·subst hj;rw [if_pos rfl,zJR _ _ _ (by omega),if_pos h,this]
  ·rw [if_neg hj]
theorem zQJ (q:Nat) (h:q < 4096):bits .and J (q:Int) 1=((q % 2:Nat):Int):=by
 unfold bits;simp only [BitVec.toNat_and,BitVec.toNat_ofInt];have e1:((q:Int) % ((2 ^ IntKind.i64.bits:Nat):Int)).toNat=q:=by
  have:((2 ^ IntKind.i64.bits:Nat):Int)=18446744073709551616:=by decide
  rw [this];omega
 have e2:((1:Int) % ((2 ^ IntKind.i64.bits:Nat):Int)).toNat=1:=by decide
 rw [e1,e2,Nat.and_one_is_mod];exact IntWalk.i64_in _ (by omega)
theorem zWE {w:World} {ops:Array Oper} {o:Oper} {a:Act} {K:Act→World→Prop} {Q':Exit→Act→World→Prop} {ZT:Prop} (hgd:o.guard=U) (s x:Operand)
  (ho:o.op=.call { callee:=.builtin .append,args:=#[s,x],argTypes:=#[53,53] })
  {base:Nat} {A:Option Addr} {n c:Nat} {L:List Lt} {B:Option Addr} {m d:Nat} {M:List Lt} (hs:a.eval s=H A n c) (hx:a.eval x=H B m d)
  (hL:OwnL w base A n c L) (hM:Lets w B m M) (N:Nat) (hN:n+m=N) (hn:N≤2932031007402) (hbase:base≤w.heap.size)
  (h:∀A' c' w',OwnL w' base A' N c' (L++M)→w.grownBy w' (blk A)→(∀k,blk A'=Z k→blk A=Z k∨w.heap.size≤k)→K (a.put o.dst (H A' N c')) w') :
  if Region.wanted o (yielded ops a.tmps)=Q then Oper.wp Tryz.prog o a w K Q' else ZT:=by
 obtain ⟨i0,hi,aQ,az,bi⟩:=info_parts zMX
 refine zTU hgd s x 53 ho 76 i0 _ 6 48 Tryz.underlying53 hi aQ az bi rfl (by decide) hL.row hM.src
  (by
   intro u hu
   obtain ⟨q,_,hq⟩:=List.mem_flatMap.1 hu
   simp [ltC] at hq
   rcases hq with rfl | rfl | rfl | rfl | rfl | rfl<;>rfl) hs hx N hN (by unfold maxLen;omega) (by omega) hbase ?_
 intro A' c' w' h1 h2 h3 _;refine h A' c' w' ⟨by rw [List.flatMap_append];exact h1,fun y hy=>?_,hn⟩ h2 h3;rcases List.mem_append.1 hy with hy | hy
 ·exact hL.fits y hy
 ·exact hM.fits y hy
end Go.Proofs.YtlmdfmnbcndhoaaGreatDoor
