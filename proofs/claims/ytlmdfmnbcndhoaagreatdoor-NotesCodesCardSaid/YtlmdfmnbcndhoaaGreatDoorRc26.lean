/-
  Lemmas, part 26. Conditions: each theorem's own.
-/
import Derived.Test.YtlmdfmnbcndhoaaGreatDoorRc25
import Derived.Test.YtlmdfmnbcndhoaaGreatDoorRc03
open Bool renaming false→E,true→Q
open Go.Value renaming bool→G,int→D,slice→H,string→W
open Go.IntKind renaming i64→J
open Option renaming none→U,some→Z
namespace Go.Proofs.YtlmdfmnbcndhoaaGreatDoor
open Go.RowKit
noncomputable def ntO (L:List Fg) (re lo:Int) (k:Int) (S:List UInt8):List Og:=if k=1 then (rlR L re lo S).1 else rsO L re lo S
noncomputable def ntE (L:List Fg) (re lo:Int) (k:Int) (S:List UInt8):Int:=if k=1 then (rlR L re lo S).2.2 else rsE L re lo S
def ntW (L:List Fg) (k:Int) (O:List Og):List UInt8:=if k=1 then zDD L O else zHo L O
noncomputable def trE (L:List Fg) (re lo:Int) (S:List UInt8) (from_ to_:Int):Int :=
 if frB L re lo=Q∧(from_=1∨from_=2)∧(to_=1∨to_=2) then
  if ntE L re lo from_ S=0 then (if to_=2∧(ntO L re lo from_ S).all (zDI L)=E then 8 else 0) else ntE L re lo from_ S
 else 2
noncomputable def trS (L:List Fg) (re lo:Int) (S:List UInt8) (from_ to_:Int):List UInt8:=if trE L re lo S from_ to_=0 then ntW L to_ (ntO L re lo from_ S) else []
theorem zUJ {L:List Fg} {re lo k:Int} {S:List UInt8}:(∀o∈ntO L re lo k S,zKJ L o)∧(ntO L re lo k S).length≤8001:=by
 unfold ntO;split
 ·exact zUH
 ·exact zUI
theorem zUK (F:Fm) (S:List UInt8) (k:Int) (hk:k=1∨k=2) (w:World) (hA:Fgs w F.A F.n F.L) (hc:F.n≤F.c) (ht:Tabs w) :
  Calls Tryz.prog (if k=1 then 238 else 240) #[.agg #[],frV F.A F.n F.c F.re F.lo,W (bA S)] w (zGg w (ntO F.L F.re F.lo k S) (ntE F.L F.re F.lo k S)):=by
 rcases hk with rfl | rfl
 ·exact zNV F S w hA hc ht
 ·exact zNW F S w hA hc ht
theorem zUL (w : World) : (method 365 183 (.agg #[]) "catscradle/notes.read").run Tryz.prog w = .ok (238, .agg #[]) w := by kernel_rfl
theorem zUM (w : World) : (method 365 184 (.agg #[]) "catscradle/notes.read").run Tryz.prog w = .ok (240, .agg #[]) w := by kernel_rfl
theorem zUN (w : World) : (method 365 183 (.agg #[]) "catscradle/notes.write").run Tryz.prog w = .ok (239, .agg #[]) w := by kernel_rfl
theorem zUO (w : World) : (method 365 184 (.agg #[]) "catscradle/notes.write").run Tryz.prog w = .ok (241, .agg #[]) w := by kernel_rfl
set_option maxHeartbeats 12800000 in
set_option maxRecDepth 100000 in
theorem zHR (F:Fm) (S:List UInt8) (p q:Int) (w:World) (hA:Fgs w F.A F.n F.L) (hc:F.n≤F.c) (ht:Tabs w) :
  Calls Tryz.prog 40 #[frV F.A F.n F.c F.re F.lo,W (bA S),D J p,D J q] w fun e w'=>e=.returned (.tuple #[W (bA (trS F.L F.re F.lo S p q)),D J (trE F.L F.re F.lo S p q)])∧Below w.heap.size w w':=by
 have aa:Below w.heap.size w (w.alloc (.cells #[H F.A F.n F.c,D J F.re,D J F.lo] 24)):=(Below.refl _ _).alloc (Nat.le_refl _) _;have hk0:Blk (w.alloc (.cells #[H F.A F.n F.c,D J F.re,D J F.lo] 24)) w.heap.size 24 #[H F.A F.n F.c,D J F.re,D J F.lo]:=Blk.new _ _ _;obtain ⟨b,hb⟩:∃b,frB F.L F.re F.lo=b:=⟨_,rfl⟩
 obtain ⟨ZT,hE⟩:∃x,trE F.L F.re F.lo S p q=x:=⟨_,rfl⟩
 obtain ⟨T,hT⟩:∃x,trS F.L F.re F.lo S p q=x:=⟨_,rfl⟩
 rw [hE,hT];have HE:=qH hE;have eF:=qH hT;have HB:=qH hb;have HA:=qH hA;have HT:=qH ht;have HV:=qH (zFh hb F.A F.n F.c _ (hA.below aa) hc);have GB:=qH (fun k wx=>zKI k wx)
 have uD:=qH (fun (h:¬(frB F.L F.re F.lo=Q∧(p=1∨p=2)∧(q=1∨q=2)))=>(show ZT=2∧T=[] by
  have h1:ZT=2:=by rw [←hE];unfold trE;rw [if_neg h]
  refine ⟨h1,?_⟩
  rw [←hT];unfold trS;rw [hE,h1];rfl))
 clear hE hT hb hA ht;go_enter Tryz.func40,Tryz.ntmps40;go_wp2_with fail
 generalize w.alloc (.cells #[H F.A F.n F.c,D J F.re,D J F.lo] 24)=Y at aa hk0 HV ⊢;refine HV.out.mono ?_;rintro e Y2 ⟨rfl,ab⟩;have aP:=hk0.below ab hk0.lt;have ac:=zAa aa ab aa.size;clear hk0 aa ab HV
 cases b with
 | false =>
  have HF:=qH (uD.out (fun h=>by rw [HB.out] at h;cases h.1));clear uD aP;go_wp2_with fail
  go_ret2;exact ⟨by rw [HF.out.1,HF.out.2];rfl,ac⟩
 | true =>
  go_wp2_with fail
  refine (GB.out p _).mono ?_;rintro e Y3 ⟨rfl,rfl⟩;go_wp2_with fail
  refine (GB.out q _).mono ?_;rintro e Y4 ⟨rfl,rfl⟩;by_cases hp:p=1∨p=2
  ·by_cases hq:q=1∨q=2
   ·have v0:Y4.cell? ⟨w.heap.size,0,U⟩=Z (H F.A F.n F.c):=(aP.cell 0).trans rfl;obtain ⟨-,v1,v2⟩:=cQ3 aP;have Cc:=zUJ (L:=F.L) (re:=F.re) (lo:=F.lo) (k:=p) (S:=S);have B4:=zUK F S p hp Y4 (HA.out.below ac) hc (HT.out.below ac);have BS:ZT=if ntE F.L F.re F.lo p S=0 then (if q=2∧(ntO F.L F.re F.lo p S).all (zDI F.L)=E then 8 else 0) else ntE F.L F.re F.lo p S:=by rw [←HE.out];unfold trE;rw [if_pos ⟨HB.out,hp,hq⟩]
    have mJ:T=if ZT=0 then ntW F.L q (ntO F.L F.re F.lo p S) else []:=by rw [←eF.out];unfold trS;rw [HE.out]
    obtain ⟨O,B8⟩:∃x,ntO F.L F.re F.lo p S=x:=⟨_,rfl⟩
    obtain ⟨er,her⟩:∃x,ntE F.L F.re F.lo p S=x:=⟨_,rfl⟩
    rw [B8,her] at B4 BS;rw [B8] at mJ Cc;have sk:=qH Cc;have gH:=qH B4;have oJ:=qH BS;have oI:=qH mJ;have mwr:=zUL;have msr:=zUM;have mww:=zUN;have msw:=zUO;clear uD Cc B4 BS mJ B8 her;rcases hp with rfl | rfl
    ·rcases hq with rfl | rfl
     ·skip;rw [if_pos rfl] at gH;rw [show zJZ 1=.iface 183 (.agg #[]) from rfl];go_wp2_with fail
      refine gH.out.mono ?_;rintro e Y5 ⟨B,m,d,Es,rfl,ep,hm,hO,ai⟩;have og:=qH ep;have ao:=zAa ac ai ac.size;have eB:=aP.below ai aP.lt;obtain ⟨u0,u1,u2⟩:=cQ3 eB;by_cases h0:er=0
      ·subst h0;obtain ⟨gn,da,hfi,hri,hal⟩:=zFy hO hm ep sk.out.1 sk.out.2;have hnl:F.n=F.L.length:=HA.out.len.symm;have lT:=qH (zFx F.A F.n F.c F.L F.re F.lo 1 (by omega) B m d Es Y5 (HA.out.below ao) gn (by rw [hnl];exact hri));obtain ⟨av,hav⟩:∃x,zTx F.L 1 Es=x:=⟨_,rfl⟩
       rw [hav] at lT;have mx:=qH (oJ.out.trans (if_pos rfl));have HK:=qH (And.intro gn (And.intro da (And.intro hfi hal)));have pJ:=qH hav;clear hO hm ep gn da hfi hri hal hav hnl gH v0 v1 v2;go_wp2_with fail
       refine lT.out.mono ?_;rintro e Y6 ⟨rfl,bE⟩;have bg:=zAa ao bE ao.size;have lv:=eB.below bE eB.lt;obtain ⟨t0,t1,t2⟩:=cQ3 lv;clear u0 u1 u2
       cases av with
       | true =>
        have dK:Hid (ZT=0):=qH (by rw [mx.out,if_neg (by omega)]);have pA:=qH (zHP F B m d Es Y6 (HA.out.below bg) hc (HT.out.below bg) HB.out (HK.out.1.below bE) HK.out.2.1 HK.out.2.2.1 og.out HK.out.2.2.2);have gq:=qH (show T=zDD F.L O by rw [oI.out,dK.out];rfl);go_wp2_with fail
        refine pA.out.mono ?_;rintro e Y7 ⟨rfl,aJ⟩;have bH:=zAa bg aJ bg.size;clear t0 t1 t2;go_wp2_with fail
        go_ret2;exact ⟨by rw [dK.out,gq.out];rfl,bH⟩
       | false =>
        exact absurd pJ.out (by rw [show zTx F.L 1 Es=Q from rfl];simp)
      ·have dK:Hid (ZT=er):=qH (by rw [oJ.out,if_neg h0]);have gq:Hid (T=[]):=qH (by rw [oI.out,dK.out,if_neg h0]);have k0:(er != 0)=Q:=by simpa using h0
       clear h0 hO hm ep u0 u1 u2 v0 v1 v2;go_wp2_with fail
       go_ret2;exact ⟨by rw [dK.out,gq.out];rfl,ao⟩
     ·skip;rw [if_pos rfl] at gH;rw [show zJZ 1=.iface 183 (.agg #[]) from rfl,show zJZ 2=.iface 184 (.agg #[]) from rfl];go_wp2_with fail
      refine gH.out.mono ?_;rintro e Y5 ⟨B,m,d,Es,rfl,ep,hm,hO,ai⟩;have og:=qH ep;have ao:=zAa ac ai ac.size;have eB:=aP.below ai aP.lt;obtain ⟨u0,u1,u2⟩:=cQ3 eB;by_cases h0:er=0
      ·subst h0;obtain ⟨gn,da,hfi,hri,hal⟩:=zFy hO hm ep sk.out.1 sk.out.2;have hnl:F.n=F.L.length:=HA.out.len.symm;have lT:=qH (zFx F.A F.n F.c F.L F.re F.lo 2 (by omega) B m d Es Y5 (HA.out.below ao) gn (by rw [hnl];exact hri));obtain ⟨av,hav⟩:∃x,zTx F.L 2 Es=x:=⟨_,rfl⟩
       rw [hav] at lT;have mx:=qH (oJ.out.trans (if_pos rfl));have HK:=qH (And.intro gn (And.intro da (And.intro hfi hal)));have pJ:=qH hav;clear hO hm ep gn da hfi hri hal hav hnl gH v0 v1 v2;go_wp2_with fail
       refine lT.out.mono ?_;rintro e Y6 ⟨rfl,bE⟩;have bg:=zAa ao bE ao.size;have lv:=eB.below bE eB.lt;obtain ⟨t0,t1,t2⟩:=cQ3 lv;clear u0 u1 u2
       cases av with
       | true =>
        have hcn:O.all (zDI F.L)=Q:=by rw [←og.out,List.all_map];exact pJ.out
        have dK:Hid (ZT=0):=qH (by rw [mx.out,if_neg (by rw [hcn];simp)]);have pA:=qH (zHQ F B m d Es Y6 (HA.out.below bg) hc HB.out (HK.out.1.below bE) HK.out.2.1 HK.out.2.2.1 og.out HK.out.2.2.2 hcn);have gq:=qH (show T=zHo F.L O by rw [oI.out,dK.out];rfl);clear hcn;go_wp2_with fail
        refine pA.out.mono ?_;rintro e Y7 ⟨rfl,aJ⟩;have bH:=zAa bg aJ bg.size;clear t0 t1 t2;go_wp2_with fail
        go_ret2;exact ⟨by rw [dK.out,gq.out];rfl,bH⟩
       | false =>
        have hcn:O.all (zDI F.L)=E:=by rw [←og.out,List.all_map];exact pJ.out
        have dK:Hid (ZT=8):=qH (by rw [mx.out,if_pos (by first | exact ⟨rfl,hcn⟩ | exact ⟨trivial,hcn⟩)]);have gq:=qH (show T=[] by rw [oI.out,dK.out];rfl);clear hcn;go_wp2_with fail
        go_ret2;exact ⟨by rw [dK.out,gq.out];rfl,bg⟩
      ·have dK:Hid (ZT=er):=qH (by rw [oJ.out,if_neg h0]);have gq:Hid (T=[]):=qH (by rw [oI.out,dK.out,if_neg h0]);have k0:(er != 0)=Q:=by simpa using h0
       clear h0 hO hm ep u0 u1 u2 v0 v1 v2;go_wp2_with fail
       go_ret2;exact ⟨by rw [dK.out,gq.out];rfl,ao⟩
    ·rcases hq with rfl | rfl
     ·skip;rw [if_neg (by omega)] at gH;rw [show zJZ 2=.iface 184 (.agg #[]) from rfl,show zJZ 1=.iface 183 (.agg #[]) from rfl];go_wp2_with fail
      refine gH.out.mono ?_;rintro e Y5 ⟨B,m,d,Es,rfl,ep,hm,hO,ai⟩;have og:=qH ep;have ao:=zAa ac ai ac.size;have eB:=aP.below ai aP.lt;obtain ⟨u0,u1,u2⟩:=cQ3 eB;by_cases h0:er=0
      ·subst h0;obtain ⟨gn,da,hfi,hri,hal⟩:=zFy hO hm ep sk.out.1 sk.out.2;have hnl:F.n=F.L.length:=HA.out.len.symm;have lT:=qH (zFx F.A F.n F.c F.L F.re F.lo 1 (by omega) B m d Es Y5 (HA.out.below ao) gn (by rw [hnl];exact hri));obtain ⟨av,hav⟩:∃x,zTx F.L 1 Es=x:=⟨_,rfl⟩
       rw [hav] at lT;have mx:=qH (oJ.out.trans (if_pos rfl));have HK:=qH (And.intro gn (And.intro da (And.intro hfi hal)));have pJ:=qH hav;clear hO hm ep gn da hfi hri hal hav hnl gH v0 v1 v2;go_wp2_with fail
       refine lT.out.mono ?_;rintro e Y6 ⟨rfl,bE⟩;have bg:=zAa ao bE ao.size;have lv:=eB.below bE eB.lt;obtain ⟨t0,t1,t2⟩:=cQ3 lv;clear u0 u1 u2
       cases av with
       | true =>
        have dK:Hid (ZT=0):=qH (by rw [mx.out,if_neg (by omega)]);have pA:=qH (zHP F B m d Es Y6 (HA.out.below bg) hc (HT.out.below bg) HB.out (HK.out.1.below bE) HK.out.2.1 HK.out.2.2.1 og.out HK.out.2.2.2);have gq:=qH (show T=zDD F.L O by rw [oI.out,dK.out];rfl);go_wp2_with fail
        refine pA.out.mono ?_;rintro e Y7 ⟨rfl,aJ⟩;have bH:=zAa bg aJ bg.size;clear t0 t1 t2;go_wp2_with fail
        go_ret2;exact ⟨by rw [dK.out,gq.out];rfl,bH⟩
       | false =>
        exact absurd pJ.out (by rw [show zTx F.L 1 Es=Q from rfl];simp)
      ·have dK:Hid (ZT=er):=qH (by rw [oJ.out,if_neg h0]);have gq:Hid (T=[]):=qH (by rw [oI.out,dK.out,if_neg h0]);have k0:(er != 0)=Q:=by simpa using h0
       clear h0 hO hm ep u0 u1 u2 v0 v1 v2;go_wp2_with fail
       go_ret2;exact ⟨by rw [dK.out,gq.out];rfl,ao⟩
     ·skip;rw [if_neg (by omega)] at gH;rw [show zJZ 2=.iface 184 (.agg #[]) from rfl];go_wp2_with fail
      refine gH.out.mono ?_;rintro e Y5 ⟨B,m,d,Es,rfl,ep,hm,hO,ai⟩;have og:=qH ep;have ao:=zAa ac ai ac.size;have eB:=aP.below ai aP.lt;obtain ⟨u0,u1,u2⟩:=cQ3 eB;by_cases h0:er=0
      ·subst h0;obtain ⟨gn,da,hfi,hri,hal⟩:=zFy hO hm ep sk.out.1 sk.out.2;have hnl:F.n=F.L.length:=HA.out.len.symm;have lT:=qH (zFx F.A F.n F.c F.L F.re F.lo 2 (by omega) B m d Es Y5 (HA.out.below ao) gn (by rw [hnl];exact hri));obtain ⟨av,hav⟩:∃x,zTx F.L 2 Es=x:=⟨_,rfl⟩
       rw [hav] at lT;have mx:=qH (oJ.out.trans (if_pos rfl));have HK:=qH (And.intro gn (And.intro da (And.intro hfi hal)));have pJ:=qH hav;clear hO hm ep gn da hfi hri hal hav hnl gH v0 v1 v2;go_wp2_with fail
       refine lT.out.mono ?_;rintro e Y6 ⟨rfl,bE⟩;have bg:=zAa ao bE ao.size;have lv:=eB.below bE eB.lt;obtain ⟨t0,t1,t2⟩:=cQ3 lv;clear u0 u1 u2
       cases av with
       | true =>
        have hcn:O.all (zDI F.L)=Q:=by rw [←og.out,List.all_map];exact pJ.out
        have dK:Hid (ZT=0):=qH (by rw [mx.out,if_neg (by rw [hcn];simp)]);have pA:=qH (zHQ F B m d Es Y6 (HA.out.below bg) hc HB.out (HK.out.1.below bE) HK.out.2.1 HK.out.2.2.1 og.out HK.out.2.2.2 hcn);have gq:=qH (show T=zHo F.L O by rw [oI.out,dK.out];rfl);clear hcn;go_wp2_with fail
        refine pA.out.mono ?_;rintro e Y7 ⟨rfl,aJ⟩;have bH:=zAa bg aJ bg.size;clear t0 t1 t2;go_wp2_with fail
        go_ret2;exact ⟨by rw [dK.out,gq.out];rfl,bH⟩
       | false =>
        have hcn:O.all (zDI F.L)=E:=by rw [←og.out,List.all_map];exact pJ.out
        have dK:Hid (ZT=8):=qH (by rw [mx.out,if_pos (by first | exact ⟨rfl,hcn⟩ | exact ⟨trivial,hcn⟩)]);have gq:=qH (show T=[] by rw [oI.out,dK.out];rfl);clear hcn;go_wp2_with fail
        go_ret2;exact ⟨by rw [dK.out,gq.out];rfl,bg⟩
      ·have dK:Hid (ZT=er):=qH (by rw [oJ.out,if_neg h0]);have gq:Hid (T=[]):=qH (by rw [oI.out,dK.out,if_neg h0]);have k0:(er != 0)=Q:=by simpa using h0
       clear h0 hO hm ep u0 u1 u2 v0 v1 v2;go_wp2_with fail
       go_ret2;exact ⟨by rw [dK.out,gq.out];rfl,ao⟩
   ·have HF:=qH (uD.out (fun h=>hq h.2.2));have hqn:zJZ q=.nilIface:=by unfold zJZ;rw [if_neg (fun e=>hq (.inl e)),if_neg (fun e=>hq (.inr e))]
    rw [hqn];clear hq hqn uD aP;rcases hp with rfl | rfl
    ·rw [show zJZ 1=.iface 183 (.agg #[]) from rfl];go_wp2_with fail
     go_ret2;exact ⟨by rw [HF.out.1,HF.out.2];rfl,ac⟩
    ·rw [show zJZ 2=.iface 184 (.agg #[]) from rfl];go_wp2_with fail
     go_ret2;exact ⟨by rw [HF.out.1,HF.out.2];rfl,ac⟩
  ·have HF:=qH (uD.out (fun h=>hp h.2.1));have hpn:zJZ p=.nilIface:=by unfold zJZ;rw [if_neg (fun e=>hp (.inl e)),if_neg (fun e=>hp (.inr e))]
   rw [hpn];clear hp hpn uD aP;go_wp2_with fail
   go_ret2;exact ⟨by rw [HF.out.1,HF.out.2];rfl,ac⟩
def Dia (w:World) (p:Nat) (K:Int) (A:Option Addr) (n c:Nat) (v2 v3 v4 v5 v6:Value):Prop:=Blk w p 148 #[D J K,H A n c,v2,v3,v4,v5,v6]
section
variable {w w':World} {p:Nat} {K:Int} {A:Option Addr} {n c:Nat} {v2 v3 v4 v5 v6:Value}
theorem Dia.c0 (h:Dia w p K A n c v2 v3 v4 v5 v6):w.cell? ⟨p,0,U⟩=Z (D J K):=by rw [Blk.cell h];rfl
theorem Dia.c1 (h:Dia w p K A n c v2 v3 v4 v5 v6):w.cell? ⟨p,1,U⟩=Z (H A n c):=by rw [Blk.cell h];rfl
theorem Dia.c2 (h:Dia w p K A n c v2 v3 v4 v5 v6):w.cell? ⟨p,2,U⟩=Z v2:=by rw [Blk.cell h];rfl
theorem Dia.c3 (h:Dia w p K A n c v2 v3 v4 v5 v6):w.cell? ⟨p,3,U⟩=Z v3:=by rw [Blk.cell h];rfl
theorem Dia.c4 (h:Dia w p K A n c v2 v3 v4 v5 v6):w.cell? ⟨p,4,U⟩=Z v4:=by rw [Blk.cell h];rfl
theorem Dia.c5 (h:Dia w p K A n c v2 v3 v4 v5 v6):w.cell? ⟨p,5,U⟩=Z v5:=by rw [Blk.cell h];rfl
theorem Dia.c6 (h:Dia w p K A n c v2 v3 v4 v5 v6):w.cell? ⟨p,6,U⟩=Z v6:=by rw [Blk.cell h];rfl
theorem Dia.lt (h:Dia w p K A n c v2 v3 v4 v5 v6):p < w.heap.size:=Blk.lt h
theorem Dia.below {B:Nat} (h:Dia w p K A n c v2 v3 v4 v5 v6) (hb:Below B w w') (hB:p < B):Dia w' p K A n c v2 v3 v4 v5 v6:=Blk.below h hb hB
theorem Dia.next (h:Dia w p K A n c v2 v3 v4 v5 v6) (hb:Below w.heap.size w w'):Dia w' p K A n c v2 v3 v4 v5 v6:=Blk.below h hb h.lt
theorem Dia.frozen (h:Dia w p K A n c v2 v3 v4 v5 v6) (i:Nat):w.frozen? ⟨p,i,U⟩=E:=Blk.frozen h i
end
set_option maxRecDepth 100000 in
set_option maxHeartbeats 1600000 in
theorem zGv (l:Lt) (b p:Nat) (K:Int) (w:World) (hb:w.cell? ⟨b,0,U⟩=Z (.pointer (Z ⟨p,0,U⟩))) (hp:w.cell? ⟨p,0,U⟩=Z (D J K)) :
  Calls Tryz.prog 198 #[ltV l,.pointer (Z ⟨b,0,U⟩)] w fun e w'=>e=.returned (G (!lpB K l))∧Below w.heap.size w w':=by
 have hbb:=(Below.refl w.heap.size w).alloc (Nat.le_refl _) (.cells #[D J l.kind,D J l.gate,D J l.rank,D J l.id,D J l.sign,G l.over] 76);have hblt:=World.block_lt_of_cell? w _ hb;have hplt:=World.block_lt_of_cell? w _ hp;have tE:=(hbb.cell (p:=⟨b,0,U⟩) hblt).trans hb;have ik:=(hbb.cell (p:=⟨p,0,U⟩) hplt).trans hp;unfold ltV
 cases k1:(l.kind==1) with
 | true =>
  cases q1:decide (l.gate < 0) with
  | true =>
   have yN:l.gate < 0:=by simpa using q1
   have hf:=qH (show (!lpB K l)=Q by unfold lpB;rw [if_pos (show l.kind=1 by simpa using k1)];simp at q1;simp;omega);go_enter Tryz.func198,Tryz.ntmps198;go_wp2_with fail
   go_quiet (fail)
   go_wp2_with fail
   go_ret;exact ⟨zAi hf.out.symm,zAe ((Below.refl _ _).alloc (Nat.le_refl _) _) _⟩
  | false =>
   cases q2:decide (K < l.gate) with
   | true =>
    have yM:K < l.gate:=by simpa using q2
    have hf:=qH (show (!lpB K l)=Q by unfold lpB;rw [if_pos (show l.kind=1 by simpa using k1)];simp at q2;simp;omega);go_enter Tryz.func198,Tryz.ntmps198;go_wp2_with fail
    go_quiet (fail)
    go_wp2_with fail
    go_ret;exact ⟨zAi hf.out.symm,zAe ((Below.refl _ _).alloc (Nat.le_refl _) _) _⟩
   | false =>
    cases q3:(l.id != 0) with
    | true =>
     have hf:=qH (show (!lpB K l)=Q by unfold lpB;rw [if_pos (show l.kind=1 by simpa using k1)];simp at q3;simp;omega);go_enter Tryz.func198,Tryz.ntmps198;go_wp2_with fail
     go_quiet (fail)
     go_wp2_with fail
     go_ret;exact ⟨zAi hf.out.symm,zAe ((Below.refl _ _).alloc (Nat.le_refl _) _) _⟩
    | false =>
     cases q4:(l.sign != 0) with
     | true =>
      have hf:=qH (show (!lpB K l)=Q by unfold lpB;rw [if_pos (show l.kind=1 by simpa using k1)];simp at q4;simp;omega);go_enter Tryz.func198,Tryz.ntmps198;go_wp2_with fail
      go_quiet (fail)
      go_wp2_with fail
      go_ret;exact ⟨zAi hf.out.symm,zAe ((Below.refl _ _).alloc (Nat.le_refl _) _) _⟩
     | false =>
      cases q5:l.over with
      | true =>
       have hf:=qH (show (!lpB K l)=Q by unfold lpB;rw [if_pos (show l.kind=1 by simpa using k1)];simp [q5]);go_enter Tryz.func198,Tryz.ntmps198;go_wp2_with fail
       go_quiet (fail)
       go_wp2_with fail
       go_ret;exact ⟨zAi hf.out.symm,zAe ((Below.refl _ _).alloc (Nat.le_refl _) _) _⟩
      | false =>
       have hf:=qH (show (!lpB K l)=E by unfold lpB;rw [if_pos (show l.kind=1 by simpa using k1)];simp at q1 q2 q3 q4;simp;exact ⟨by omega,by omega,by omega,by omega,q5⟩);go_enter Tryz.func198,Tryz.ntmps198;go_wp2_with fail
       go_quiet (fail)
       go_wp2_with fail
       go_ret;exact ⟨zAi hf.out.symm,zAe ((Below.refl _ _).alloc (Nat.le_refl _) _) _⟩
 | false =>
  cases k2:(l.kind==2) with
  | true =>
   cases q1:(l.gate != 0) with
   | true =>
    have hf:=qH (show (!lpB K l)=Q by unfold lpB;rw [if_neg (show ¬l.kind=1 by simpa using k1),if_pos (show l.kind=2 by simpa using k2)];simp at q1;simp;omega);go_enter Tryz.func198,Tryz.ntmps198;go_wp2_with fail
    go_ret;exact ⟨zAi hf.out.symm,(Below.refl _ _).alloc (Nat.le_refl _) _⟩
   | false =>
    cases q2:(l.rank != 0) with
    | true =>
     have hf:=qH (show (!lpB K l)=Q by unfold lpB;rw [if_neg (show ¬l.kind=1 by simpa using k1),if_pos (show l.kind=2 by simpa using k2)];simp at q2;simp;omega);go_enter Tryz.func198,Tryz.ntmps198;go_wp2_with fail
     go_ret;exact ⟨zAi hf.out.symm,(Below.refl _ _).alloc (Nat.le_refl _) _⟩
    | false =>
     cases q3:(l.sign != 1) with
     | false =>
      have vy:l.sign=1∨l.sign = -1:=by simp at q3;exact .inl q3
      have Q3:=qH vy;clear vy
      have hf:=qH (show (!lpB K l)=E by unfold lpB;rw [if_neg (show ¬l.kind=1 by simpa using k1),if_pos (show l.kind=2 by simpa using k2)];have ZS:=Q3.out;simp at q1 q2;simp;omega);go_enter Tryz.func198,Tryz.ntmps198;go_wp2_with fail
      go_ret;exact ⟨zAi hf.out.symm,(Below.refl _ _).alloc (Nat.le_refl _) _⟩
     | true =>
      cases q4:(l.sign != -1) with
      | false =>
       have vy:l.sign=1∨l.sign = -1:=by simp at q4;exact .inr q4
       have Q3:=qH vy;clear vy
       have hf:=qH (show (!lpB K l)=E by unfold lpB;rw [if_neg (show ¬l.kind=1 by simpa using k1),if_pos (show l.kind=2 by simpa using k2)];have ZS:=Q3.out;simp at q1 q2;simp;omega);go_enter Tryz.func198,Tryz.ntmps198;go_wp2_with fail
       go_ret;exact ⟨zAi hf.out.symm,(Below.refl _ _).alloc (Nat.le_refl _) _⟩
      | true =>
       have hf:=qH (show (!lpB K l)=Q by unfold lpB;rw [if_neg (show ¬l.kind=1 by simpa using k1),if_pos (show l.kind=2 by simpa using k2)];simp at q3 q4;simp;omega);go_enter Tryz.func198,Tryz.ntmps198;go_wp2_with fail
       go_ret;exact ⟨zAi hf.out.symm,(Below.refl _ _).alloc (Nat.le_refl _) _⟩
  | false =>
   have hf:=qH (show (!lpB K l)=Q by unfold lpB;rw [if_neg (show ¬l.kind=1 by simpa using k1),if_neg (show ¬l.kind=2 by simpa using k2)];rfl);go_enter Tryz.func198,Tryz.ntmps198;go_wp2_with fail
   go_ret;exact ⟨zAi hf.out.symm,(Below.refl _ _).alloc (Nat.le_refl _) _⟩
def zIi (K:Int) (L:List Lt) (i:Nat):Bool:=!lpB K (la L i)
set_option maxHeartbeats 1600000 in
theorem zGi (b p:Nat) (K:Int) (A:Option Addr) (n c:Nat) (L:List Lt) (w:World) (hA:Lets w A n L) (hb:w.cell? ⟨b,0,U⟩=Z (.pointer (Z ⟨p,0,U⟩))) (hp:w.cell? ⟨p,0,U⟩=Z (D J K)) :
  Calls Tryz.prog 211 #[H A n c,.func (.func 198) #[] #[.pointer (Z ⟨b,0,U⟩)]] w fun e w'=>e=.returned (D J (zGo (zIi K L) n))∧Below w.heap.size w w':=by
 have hle:=hA.le;have hblt:=World.block_lt_of_cell? w _ hb;have hplt:=World.block_lt_of_cell? w _ hp;go_enter Tryz.func211,Tryz.ntmps211;go_wp2_with fail
 go_loopw [8] (fun i wr=>∃k:Nat,k≤n∧i=D J k∧Below w.heap.size w wr∧Hid (NoneTo (zIi K L) k)) (fun i _=>n-(intOf i).toNat)
 case atStart=>exact ⟨0,Nat.zero_le _,rfl,Below.refl _ _,NoneTo.zero _⟩
 case round =>
  obtain ⟨k,hk,rfl,hbw,hno⟩:=hrel;by_cases hlt:k < n
  ·obtain ⟨g,o,rfl,hg,hx,hok⟩:=(hA.below hbw).at_ hlt;obtain ⟨h0,h1,h2,h3,h4,h5⟩:=hx;have hbr:=(hbw.cell (p:=⟨b,0,U⟩) hblt).trans hb;have hpr:=(hbw.cell (p:=⟨p,0,U⟩) hplt).trans hp
   cases hq:lpB K (la L k) with
   | true =>
    have hs:=qH (hno.out.succ (show zIi K L k=E by unfold zIi;rw [hq];rfl));have HQ:=qH hq;clear hno hq;go_wp2_with fail
    refine (zGv (la L k) b p K _ hbr hpr).mono ?_;rintro e w1 ⟨rfl,ah⟩;rw [HQ.out];have tt:=zAa hbw ah hbw.size;go_wp2_with fail
    go_roundw
    case rel=>exact ⟨k+1,by omega,by go_num,tt,hs⟩
    case measure=>simp [intOf];omega
   | false =>
    have hf:=qH (zFO (n:=n) hno.out (show zIi K L k=Q by unfold zIi;rw [hq];rfl) hlt);have HQ:=qH hq;clear hno hq;go_wp2_with fail
    refine (zGv (la L k) b p K _ hbr hpr).mono ?_;rintro e w1 ⟨rfl,ah⟩;rw [HQ.out];have tt:=zAa hbw ah hbw.size;go_wp2_with fail
    go_ret;exact ⟨zAu hf.out.symm,tt⟩
  ·have hkn:k=n:=by omega
   subst hkn;go_wp2_with fail
   go_ret;exact ⟨zAu (zEF hno.out).symm,hbw⟩
set_option maxHeartbeats 400000 in
theorem zEy (b p:Nat) (K:Int) (A:Option Addr) (n c:Nat) (L:List Lt) (w:World) (hA:Lets w A n L) (hb:w.cell? ⟨b,0,U⟩=Z (.pointer (Z ⟨p,0,U⟩))) (hp:w.cell? ⟨p,0,U⟩=Z (D J K)) :
  Calls Tryz.prog 197 #[H A n c,.func (.func 198) #[] #[.pointer (Z ⟨b,0,U⟩)]] w fun e w'=>e=.returned (G (!zAB K L))∧Below w.heap.size w w':=by
 have HL:=qH hA.len
 have hf:=qH (show decide (0≤zGo (zIi K L) n) = !zAB K L by
  unfold zAB
  rw [HL.out]
  rcases zKc (zIi K L) n with ⟨h,h'⟩ | ⟨k,hk,h,_,hp⟩
  ·rw [h,zAF.2 (fun i hi=>by have:=h' i hi;unfold zIi at this;simpa using this)];rfl
  ·rw [h,zDq hk (by unfold zIi at hp;simpa using hp)];simp)
 go_enter Tryz.func197,Tryz.ntmps197;go_wp2_with fail
 refine (zGi b p K A n c L _ hA hb hp).mono ?_;rintro e w1 ⟨rfl,ah⟩;go_wp2_with fail
 go_ret;exact ⟨zAi hf.out,ah⟩
theorem zDy {x:Bool} (b p:Nat) (K:Int) (A:Option Addr) (n c:Nat) (L:List Lt) (w:World) (hx:zAB K L=x) (hA:Lets w A n L) (hb:w.cell? ⟨b,0,U⟩=Z (.pointer (Z ⟨p,0,U⟩))) (hp:w.cell? ⟨p,0,U⟩=Z (D J K)) :
  Calls Tryz.prog 197 #[H A n c,.func (.func 198) #[] #[.pointer (Z ⟨b,0,U⟩)]] w fun e w'=>e=.returned (G (!x))∧Below w.heap.size w w':=by
 subst hx;exact zEy b p K A n c L w hA hb hp
set_option maxHeartbeats 800000 in
theorem zHS (p:Nat) (K:Int) (A:Option Addr) (n c:Nat) (L:List Lt) (v2 v3 v4 v5 v6:Value) (w:World) (hA:Lets w A n L) (hd:Dia w p K A n c v2 v3 v4 v5 v6) :
  Calls Tryz.prog 175 #[.pointer (Z ⟨p,0,U⟩)] w fun e w'=>e=.returned (G (zAB K L))∧Below w.heap.size w w':=by
 have hbb:=(Below.refl w.heap.size w).alloc (Nat.le_refl _) (.cells #[.pointer (Z ⟨p,0,U⟩)] 143);have hc0:=(hbb.cell (p:=⟨p,0,U⟩) hd.lt).trans hd.c0;have lw:=(hbb.cell (p:=⟨p,1,U⟩) hd.lt).trans hd.c1;have hbx:(w.alloc (.cells #[.pointer (Z ⟨p,0,U⟩)] 143)).cell? ⟨w.heap.size,0,U⟩=Z (.pointer (Z ⟨p,0,U⟩)):=by rw [World.cell?_alloc_at _ _ _ _ rfl];rfl
 obtain ⟨x,hx⟩:∃x,zAB K L=x:=⟨_,rfl⟩
 have HX:=qH hx;rw [hx];clear hx;go_enter Tryz.func175,Tryz.ntmps175;go_wp2_with fail
 refine (zDy w.heap.size p K A n c L _ HX.out (hA.below hbb) hbx hc0).mono ?_;rintro e w1 ⟨rfl,ah⟩;have ab:=hbb.trans (ah.mono (by simp));go_wp2_with fail
 go_ret;exact ⟨zAi (by simp),ab⟩
set_option maxHeartbeats 800000 in
theorem zIG (p:Nat) (K:Int) (A:Option Addr) (n c:Nat) (L:List Lt) (v2 v3 v4 v5 v6:Value) (w:World) (hA:Lets w A n L) (h0:0 < n) (hd:Dia w p K A n c v2 v3 v4 v5 v6) :
  Calls Tryz.prog 176 #[.pointer (Z ⟨p,0,U⟩)] w fun e w'=>e=.returned (G (isP (la L 0)&&decide (pN L n % 2=0)))∧Below w.heap.size w w':=by
 have hc0:=hd.c0;have lw:=hd.c1;obtain ⟨g,o,rfl,hg,hx,_⟩:=hA.at_ h0;have hz:=hx.kind;simp only [Nat.zero_mul,Nat.add_zero] at hz;by_cases hk:(la L 0).kind=1
 ·have ag:((la L 0).kind==1)=Q:=by simpa using hk
  have hf:=qH (show (isP (la L 0)&&decide (pN L n % 2=0))=((pN L n:Int) % 2==0) by rw [zFP hk];rw [Bool.eq_iff_iff];simp;omega);clear hk;go_enter Tryz.func176,Tryz.ntmps176;go_wp2_with fail
  refine (zLo K (Z ⟨g,o,U⟩) n c L _ hA).mono ?_;rintro e w1 ⟨rfl,ah⟩;go_wp2_with fail
  go_ret;exact ⟨zAi hf.out.symm,ah⟩
 ·have ag:((la L 0).kind==1)=E:=by simpa using hk
  have hf:=qH (show (isP (la L 0)&&decide (pN L n % 2=0))=E by rw [zGB hk];rfl);clear hk;go_enter Tryz.func176,Tryz.ntmps176;go_wp2_with fail
  go_ret;exact ⟨zAi hf.out.symm,Below.refl _ _⟩
end Go.Proofs.YtlmdfmnbcndhoaaGreatDoor
