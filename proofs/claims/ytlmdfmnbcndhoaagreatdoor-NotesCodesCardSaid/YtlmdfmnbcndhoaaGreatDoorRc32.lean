/-
  Lemmas, part 32. Conditions: each theorem's own.
-/
import Derived.Test.YtlmdfmnbcndhoaaGreatDoorRc26
import Derived.Test.YtlmdfmnbcndhoaaGreatDoorRc31
import Derived.Test.YtlmdfmnbcndhoaaGreatDoorRc12
open Go.Value renaming bool→G,int→D,slice→H
open Go.IntKind renaming i64→J
open Bool renaming false→E,true→Q
open Option renaming none→U,some→Z
namespace Go.Proofs.YtlmdfmnbcndhoaaGreatDoor
open Go.RowKit
def nxL (L:List Lt) (i:Nat):Lt:=la L ((i+1) % L.length)
def neB (L:List Lt) (i:Nat):Bool:=isP (nxL L i)&&((nxL L i).gate-(la L i).gate==1||(la L i).gate-(nxL L i).gate==1)
def poB (L:List Lt) (i:Nat):Bool:=!(isP (la L i)&&dwn L i)||neB L i
def zCJ (L:List Lt):Bool:=zDp (poB L) L.length
theorem zLY (l:Lt) (w:World):Calls Tryz.prog 168 #[.agg #[D J l.kind,D J l.gate,D J l.rank,D J l.id,D J l.sign,G l.over]] w fun e w'=>e=.returned (G (isP l))∧Below w.heap.size w w':=by
 have hb:=(Below.refl w.heap.size w).alloc (Nat.le_refl _) (.cells #[D J l.kind,D J l.gate,D J l.rank,D J l.id,D J l.sign,G l.over] 76);have HR:=qH (show isP l=(l.kind==1) from rfl);rw [HR.out];go_enter Tryz.func168,Tryz.ntmps168;go_wp2_with fail
 go_ret;exact ⟨rfl,hb⟩
theorem zKO {l:Lt} {b:Bool} (h:isP l=b) (w:World):Calls Tryz.prog 168 #[.agg #[D J l.kind,D J l.gate,D J l.rank,D J l.id,D J l.sign,G l.over]] w fun e w'=>e=.returned (G b)∧Below w.heap.size w w':=by
 subst h;exact zLY l w
set_option maxHeartbeats 6400000 in
set_option maxRecDepth 100000 in
theorem zNY (K:Int) (A:Option Addr) (n c:Nat) (L:List Lt) (w:World) (hA:Lets w A n L) (hn:n≤400) (hg:∀i,i < n→isP (la L i)=Q→0≤(la L i).gate∧(la L i).gate≤40) :
  Calls Tryz.prog 130 #[.agg #[D J K,H A n c]] w fun e w'=>e=.returned (G (zCJ L))∧Below w.heap.size w w':=by
 have aA:L.length=n:=hA.len;have aa:=(Below.refl w.heap.size w).alloc (Nat.le_refl _) (.cells #[D J K,H A n c] 55);have hk0:Blk (w.alloc (.cells #[D J K,H A n c] 55)) w.heap.size 55 #[D J K,H A n c]:=Blk.new _ _ _;have lw:(w.alloc (.cells #[D J K,H A n c] 55)).cell? ⟨w.heap.size,1,U⟩=Z (H A n c):=(hk0.cell 1).trans rfl;have HN:=qH aA;have HG:=qH hg;clear aA hg;go_enter Tryz.func130,Tryz.ntmps130;go_wp2_with fail
 generalize w.alloc (.cells #[D J K,H A n c] 55)=Y at aa hk0 lw ⊢;go_loopw [3,10] (fun v3 oo wr=>∃(i:Nat) (X:World),X=wr∧i≤n∧oo=D J i∧v3=G (!dwn L i)∧Below Y.heap.size Y X∧Hid (∀j,j < i→poB L j=Q)) (fun _ oo _=>n-(intOf oo).toNat)
 case atStart=>exact ⟨0,_,rfl,by omega,rfl,rfl,Below.refl _ _,qH (fun j hj=>by omega)⟩
 case round =>
  obtain ⟨i,X,hX,hi,rfl,rfl,hb,HS⟩:=hrel;subst hX;have dn:=(hA.below aa).below hb;by_cases hlt:i < n
  ·have j0:(0:Int)≤(i:Int):=by omega
   have j1:(i:Int) < (n:Int):=by omega
   obtain ⟨g,o,rfl,hgl,hat,hok⟩:=dn.at_ hlt;have x0:=hat.kind;have x1:=hat.gate;have x2:=hat.rank;have x3:=hat.id;have x4:=hat.sign;have x5:=hat.over;obtain ⟨b,hbp⟩:∃b,isP (la L i)=b:=⟨_,rfl⟩
   have Aa:=qH (fun wx=>zKO hbp wx);have aE:=(Below.refl X.heap.size X).alloc (Nat.le_refl _) (.cells #[D J (la L i).kind,D J (la L i).gate,D J (la L i).rank,D J (la L i).id,D J (la L i).sign,G (la L i).over] 76);have yU:Blk (X.alloc (.cells #[D J (la L i).kind,D J (la L i).gate,D J (la L i).rank,D J (la L i).id,D J (la L i).sign,G (la L i).over] 76)) X.heap.size 76 #[D J (la L i).kind,D J (la L i).gate,D J (la L i).rank,D J (la L i).id,D J (la L i).sign,G (la L i).over]:=Blk.new _ _ _;have tw:=zAa hb aE hb.size;go_wp2_with fail
   clear x0 x1 x2 x3 x4 x5;generalize X.alloc (.cells #[D J (la L i).kind,D J (la L i).gate,D J (la L i).rank,D J (la L i).id,D J (la L i).sign,G (la L i).over] 76)=X2 at aE yU tw ⊢;refine (Aa.out X2).mono ?_;rintro e X3 ⟨rfl,ac⟩;have mj:=zAa tw ac tw.size;have oA:=yU.below ac yU.lt;generalize X.heap.size=b5 at oA ⊢;clear aE yU tw ac hat;have HBP:=qH hbp
   cases b with
   | false =>
    have hd1:dwn L (i+1)=dwn L i:=zXI hbp
    have dB:=qH (show ∀j,j < i+1→poB L j=Q from fun j hj=>by
     rcases Nat.decEq j i with e | e
     ·exact HS.out j (by omega)
     ·rw [e];unfold poB;rw [hbp];rfl)
    have HD:=qH hd1;clear hbp hd1 hok oA dn hb;go_wp2_with fail
    go_roundw
    case rel=>exact ⟨i+1,_,rfl,by omega,by go_num,by rw [HD.out],mj,dB⟩
    case measure=>simp [intOf];omega
   | true =>
    have hd1:dwn L (i+1) = !dwn L i:=zXl hbp;have HD:=qH hd1;have hgi:=HG.out i hlt hbp;obtain ⟨t,ht⟩:∃t,t=(i+1) % n:=⟨_,rfl⟩
    have htn:t < n:=by rw [ht];exact Nat.mod_lt _ (by omega)
    obtain ⟨g',o',he,hgl',hat',hok'⟩:=dn.at_ htn;injection he with he
    injection he with he1 he2
    subst he1;subst he2;have iy:=qH (show nxL L i=la L t by unfold nxL;rw [HN.out,←ht]);have hgt:=HG.out t htn;have be:=hk0.below mj hk0.lt;have tX:=(hA.below aa).below mj;have c3:X3.cell? ⟨w.heap.size,1,U⟩=Z (H (Z ⟨g,o,U⟩) n c):=(be.cell 1).trans rfl;obtain ⟨y0,y1,y2,y3,y4,y5⟩:=(tX.also htn).1;have q3:((i:Int)+1) % (n:Int)=(t:Int):=by rw [ht];simp
    have gw:((i:Int)+1).tmod (n:Int)=(t:Int):=by rw [Int.tmod_eq_emod_of_nonneg (by omega)];exact q3
    have gO:IntKind.i64.wrap ((i:Int)+1)=(i:Int)+1:=IntWalk.i64_in _ (by omega);have gv:IntKind.i64.wrap (t:Int)=(t:Int):=IntWalk.i64_in _ (by omega);have AJ:¬n=0:=by omega
    have q4:(0:Int)≤(t:Int):=by omega
    have q5:(t:Int) < (n:Int):=by omega
    have bN:=(Below.refl X3.heap.size X3).alloc (Nat.le_refl _) (.cells #[D J (la L t).kind,D J (la L t).gate,D J (la L t).rank,D J (la L t).id,D J (la L t).sign,G (la L t).over] 76);have kN:Blk (X3.alloc (.cells #[D J (la L t).kind,D J (la L t).gate,D J (la L t).rank,D J (la L t).id,D J (la L t).sign,G (la L t).over] 76)) X3.heap.size 76 #[D J (la L t).kind,D J (la L t).gate,D J (la L t).rank,D J (la L t).id,D J (la L t).sign,G (la L t).over]:=Blk.new _ _ _;have lN:=oA.below bN oA.lt;have o5:=zAa mj bN mj.size;obtain ⟨d,hd⟩:∃d,dwn L i=d:=⟨_,rfl⟩
    rw [hd] at hd1 HD ⊢;have mD:=qH hd;have bZ:=(Below.refl X3.heap.size X3).alloc (Nat.le_refl _) (.cells #[D J 0,D J 0,D J 0,D J 0,D J 0,G E] 76);have c3z:(X3.alloc (.cells #[D J 0,D J 0,D J 0,D J 0,D J 0,G E] 76)).cell? ⟨w.heap.size,1,U⟩=Z (H (Z ⟨g,o,U⟩) n c):=((be.below bZ be.lt).cell 1).trans rfl;obtain ⟨z0,z1,z2,z3,z4,z5⟩:=((tX.below bZ).also htn).1;clear ht hbp hd1 hok dn hb hd bZ;go_upto_region 7 with fail
    go_region
    clear c3 c3z y0 y1 y2 y3 y4 y5 z0 z1 z2 z3 z4 z5 q3 gw gO gv AJ q4 q5 be tX oA bN;generalize X3.alloc (.cells #[D J (la L t).kind,D J (la L t).gate,D J (la L t).rank,D J (la L t).id,D J (la L t).sign,G (la L t).over] 76)=X4 at kN lN o5 ⊢;generalize X3.heap.size=b6 at kN ⊢;have kN:=kN.drew;have lN:=lN.drew;have o5:=o5.drew;generalize X4.drew=X5 at kN lN o5 ⊢;obtain ⟨f0,f1,f2,f3,f4,f5⟩:=cQ6 kN
    cases d with
    | false =>
     have gB:poB L i=Q:=by unfold poB;rw [mD.out,Bool.and_false];rfl
     have dB:=qH (show ∀j,j < i+1→poB L j=Q from fun j hj=>by
      rcases Nat.decEq j i with e | e
      ·exact HS.out j (by omega)
      ·rw [e];exact gB)
     clear gB HS;go_wp2_with fail
     go_roundw
     case rel=>exact ⟨i+1,_,rfl,by omega,by go_num,by rw [HD.out];rfl,o5,dB⟩
     case measure=>simp [intOf];omega
    | true =>
     obtain ⟨p,hp⟩:∃p,isP (la L t)=p:=⟨_,rfl⟩
     have uv:=qH (fun wx=>zKO hp wx);have hpe:poB L i=(p&&((la L t).gate-(la L i).gate==1||(la L i).gate-(la L t).gate==1)):=by
      unfold poB neB;rw [mD.out,HBP.out,iy.out,hp];rfl
     have Db:=qH hpe;have HP:=qH hp;clear hpe hp
     cases p with
     | false =>
      have HF:=qH (show zCJ L=E from zDq (by rw [HN.out];exact hlt) (by rw [Db.out];rfl));clear HS;go_wp2_with fail
      refine (uv.out X5).mono ?_;rintro e X6 ⟨rfl,ao⟩;have hbw:=zAa aa (zAa o5 ao o5.size) aa.size;clear f0 f1 f2 f3 f4 f5 ao;go_wp2_with fail
      go_ret;exact ⟨by rw [HF.out];rfl,hbw⟩
     | true =>
      have Bs:=hgt HP.out;obtain ⟨x,hx⟩:∃x,(la L i).gate=x:=⟨_,rfl⟩
      obtain ⟨y,hy⟩:∃y,(la L t).gate=y:=⟨_,rfl⟩
      have CY:=qH (show poB L i=(y-x==1||x-y==1) by rw [Db.out,hx,hy];rfl);rw [hx] at hgi lN;rw [hy] at Bs f1 kN;clear hgt Db;have Fl:∀q,q=(y-x==1||x-y==1)→q=E→Hid (zCJ L=E):=fun q h1 h2=>qH (zDq (by rw [HN.out];exact hlt) (by rw [CY.out,←h1,h2]))
      have vf:=qH Fl
      have dB:=qH (show ∀q,q=(y-x==1||x-y==1)→q=Q→∀j,j < i+1→poB L j=Q from fun q h1 h2 j hj=>by
       rcases Nat.decEq j i with e | e
       ·exact HS.out j (by omega)
       ·rw [e,CY.out,←h1,h2])
      have uu:=qH (uv.out X5);rw [hy] at uu;clear Fl HS hx hy CY uv;go_wp2_with fail
      refine uu.out.mono ?_;rintro e X6 ⟨rfl,ao⟩;have BF:=zAa o5 ao o5.size;have hbw:=zAa aa BF aa.size;have k6:=kN.below ao kN.lt;have l6:=lN.below ao lN.lt;clear f0 f1 f2 f3 f4 f5 ao kN lN uu;have f1:X6.cell? ⟨b6,1,U⟩=Z (D J y):=(k6.cell 1).trans rfl;have g1:X6.cell? ⟨b5,1,U⟩=Z (D J x):=(l6.cell 1).trans rfl;have w1:wrap64 (y-x)=y-x:=by unfold wrap64;omega
      have w2:wrap64 (x-y)=x-y:=by unfold wrap64;omega
      have w3:IntKind.i64.wrap (y-x)=y-x:=IntWalk.i64_in _ (by omega);have w4:IntKind.i64.wrap (x-y)=x-y:=IntWalk.i64_in _ (by omega);clear k6 l6;by_cases c1:y-x=1
      ·have d1:(y-x != 1)=E:=by simpa using c1
       have C7:=qH (dB.out Q (by simp [c1]) rfl);clear c1 dB;go_wp2_with fail
       go_roundw
       case rel=>exact ⟨i+1,_,rfl,by omega,by go_num,by rw [HD.out];rfl,BF,C7⟩
       case measure=>simp [intOf];omega
      ·have d1:(y-x != 1)=Q:=by simpa using c1
       by_cases c2:x-y=1
       ·have d2:(x-y != 1)=E:=by simpa using c2
        have C7:=qH (dB.out Q (by simp [c2]) rfl);clear c1 c2 dB;go_wp2_with fail
        go_roundw
        case rel=>exact ⟨i+1,_,rfl,by omega,by go_num,by rw [HD.out];rfl,BF,C7⟩
        case measure=>simp [intOf];omega
       ·have d2:(x-y != 1)=Q:=by simpa using c2
        have HF:=vf.out E (by simp [c1,c2]) rfl;clear c1 c2 dB vf;go_wp2_with fail
        go_ret;exact ⟨by rw [HF.out];rfl,hbw⟩
  ·have j1:¬(i:Int) < (n:Int):=by omega
   have hr:=qH (show zCJ L=Q by
    unfold zCJ
    rw [HN.out]
    exact zAF.2 (fun j hj=>HS.out j (by omega)))
   have hbw:=zAa aa hb aa.size;clear hlt HS dn hb;go_wp2_with fail
   go_ret;exact ⟨by rw [hr.out];rfl,hbw⟩
end Go.Proofs.YtlmdfmnbcndhoaaGreatDoor
namespace Go.Proofs.YtlmdfmnbcndhoaaGreatDoor
structure Tame (K:Int) (L:List Lt):Prop where
 lo:0≤K
 hi:K≤40
 len:L.length≤400
 pass:∀i,i < L.length→isP (la L i)=Q→0≤(la L i).gate∧(la L i).gate≤K∧1≤(la L i).rank∧(la L i).rank≤400
 kinds:∀i,i < L.length→isP (la L i)=Q∨isC (la L i)=Q
 sign:∀i,i < L.length→isC (la L i)=Q→(la L i).sign=1∨(la L i).sign = -1
theorem zHU {K:Int} {L:List Lt} (h:zAy K L=0):0≤K∧K≤40∧L.length≤400∧(L.length=0∨zBd K L=Q):=by
 unfold zAy at h;by_cases h1:400 < L.length∨200 < cN L L.length
 ·rw [if_pos h1] at h;cases h
 ·rw [if_neg h1] at h;by_cases h2:K < 0∨40 < K
  ·rw [if_pos h2] at h;cases h
  ·rw [if_neg h2] at h;by_cases h3:L.length=0
   ·exact ⟨by omega,by omega,by omega,.inl h3⟩
   ·rw [if_neg h3] at h
    cases hv:zBd K L with
    | true=>exact ⟨by omega,by omega,by omega,.inr rfl⟩
    | false=>rw [hv] at h;cases h
theorem zDA {K:Int} {L:List Lt} (h:zAy K L=0):Tame K L:=by
 obtain ⟨h1,h2,h3,h4⟩:=zHU h;rcases h4 with h4 | h4
 ·exact ⟨h1,h2,h3,fun i hi=>by omega,fun i hi=>by omega,fun i hi=>by omega⟩
 ·rcases Nat.eq_zero_or_pos L.length with h0 | h0
  ·exact ⟨h1,h2,h3,fun i hi=>by omega,fun i hi=>by omega,fun i hi=>by omega⟩
  ·have g:=zFk h0 h4;refine ⟨h1,h2,h3,fun i hi hp=>?_,g.kinds,fun i hi hc=>?_⟩
   ·have a1:=g.gates i hi hp;have a2:=g.rank hp;have a3:gN L (la L i).gate L.length≤L.length:=zBs _ _;omega
   ·unfold zBd at h4;rw [←zCC] at h4;simp only [Bool.and_eq_true] at h4;have h5:=h4.1.2.1.1;unfold zAB at h5;have h6:=zAF.1 h5 i hi;have k2:(la L i).kind=2:=by unfold isC at hc;simpa using hc
    unfold lpB at h6;rw [if_neg (by omega),if_pos k2] at h6;simp only [decide_eq_true_eq] at h6;exact h6.2.2
end Go.Proofs.YtlmdfmnbcndhoaaGreatDoor
namespace Go.Proofs.YtlmdfmnbcndhoaaGreatDoor
open Go.RowKit
def zCc (F:List Fg) (re lo K:Int) (L:List Lt):Bool:=frB F re lo&&(zAy K L==0)&&(K==(F.length:Int))&&zCJ L
def zDl (F:List Fg) (re lo K:Int) (L:List Lt):Int:=if frB F re lo=E then 2 else if zAy K L≠0 then zAy K L else if zCc F re lo K L then 0 else 2
theorem zMR {K ZT:Int} {A:Option Addr} {n c:Nat} {L:List Lt} (h:zAy K L=ZT) (w:World) (hA:Lets w A n L):Calls Tryz.prog 122 #[.agg #[D J K,H A n c]] w fun e w'=>e=.returned (D J ZT)∧Below w.heap.size w w':=by
 subst h;exact zNX K A n c L w hA
theorem zSp {K:Int} {A:Option Addr} {n c:Nat} {L:List Lt} {b:Bool} (h:zCJ L=b) (w:World) (hA:Lets w A n L) (h0:zAy K L=0):Calls Tryz.prog 130 #[.agg #[D J K,H A n c]] w fun e w'=>e=.returned (G b)∧Below w.heap.size w w':=by
 have ht:=zDA h0;have hl:=hA.len;subst h;exact zNY K A n c L w hA (by have:=ht.len;omega) (fun i hi hp=>by have:=ht.pass i (by omega) hp;have:=ht.hi;omega)
set_option maxHeartbeats 3200000 in
theorem zNZ (A:Option Addr) (n c:Nat) (F:List Fg) (re lo K:Int) (B:Option Addr) (m d:Nat) (L:List Lt) (w:World) (hA:Fgs w A n F) (hc:n≤c) (hB:Lets w B m L) :
  Calls Tryz.prog 83 #[frV A n c re lo,.agg #[D J K,H B m d]] w fun e w'=>e=.returned (G (zCc F re lo K L))∧Below w.heap.size w w':=by
 have aa:Below w.heap.size w ((w.alloc (.cells #[H A n c,D J re,D J lo] 24)).alloc (.cells #[D J K,H B m d] 55)):=((Below.refl _ _).alloc (Nat.le_refl _) _).alloc (by simp) _;have hk0:Blk ((w.alloc (.cells #[H A n c,D J re,D J lo] 24)).alloc (.cells #[D J K,H B m d] 55)) w.heap.size 24 #[H A n c,D J re,D J lo]:=(Blk.new w _ _).alloc _;have ag:Blk ((w.alloc (.cells #[H A n c,D J re,D J lo] 24)).alloc (.cells #[D J K,H B m d] 55)) (w.heap.size+1) 55 #[D J K,H B m d]:=heap_alloc2_new w _ _;have zr:=hA.len;obtain ⟨v,hv⟩:∃v,frB F re lo=v:=⟨_,rfl⟩
 have HV:=qH (fun wx (hx:Fgs wx A n F)=>zFh hv A n c wx hx hc);have HR:=qH (show zCc F re lo K L=(v&&(zAy K L==0)&&(K==(n:Int))&&zCJ L) by unfold zCc;rw [hv,zr]);rw [HR.out];clear hv zr
 cases v with
 | false =>
  go_enter Tryz.func83,Tryz.ntmps83;go_wp2_with fail
  generalize ((w.alloc (.cells #[H A n c,D J re,D J lo] 24)).alloc (.cells #[D J K,H B m d] 55))=Y at aa hk0 ag ⊢;refine (HV.out _ (hA.below aa)).mono ?_;rintro e Y2 ⟨rfl,ab⟩;have ac:=zAa aa ab aa.size;clear ab hk0 ag;go_wp2_with fail
  go_ret;exact ⟨rfl,ac⟩
 | true =>
  obtain ⟨ZT,hE⟩:∃ZT,zAy K L=ZT:=⟨_,rfl⟩
  have HC:=qH (fun wx (hx:Lets wx B m L)=>zMR (c:=d) hE wx hx);rw [hE];have HE:=qH hE;clear hE HR;by_cases h0:ZT=0
  ·subst h0;by_cases hK:K=(n:Int)
   ·have q1:(K==(n:Int))=Q:=by simpa using hK
    obtain ⟨p,hp⟩:∃p,zCJ L=p:=⟨_,rfl⟩
    have HP:=qH (fun wx (hx:Lets wx B m L)=>zSp (c:=d) hp wx hx HE.out);rw [hp];clear hp hK;go_enter Tryz.func83,Tryz.ntmps83;go_wp2_with fail
    generalize ((w.alloc (.cells #[H A n c,D J re,D J lo] 24)).alloc (.cells #[D J K,H B m d] 55))=Y at aa hk0 ag ⊢;refine (HV.out _ (hA.below aa)).mono ?_;rintro e Y2 ⟨rfl,ab⟩;have ac:=zAa aa ab aa.size;have k2:=hk0.below ab hk0.lt;have k3:=ag.below ab ag.lt;clear ab hk0 ag;obtain ⟨c0,c1⟩:=cQ2 k3;go_wp2_with fail
    refine (HC.out _ (hB.below ac)).mono ?_;rintro e Y3 ⟨rfl,aj⟩;have ai:=zAa ac aj ac.size;have k4:=k2.below aj k2.lt;have k5:=k3.below aj k3.lt;clear aj k2 k3 c0 c1 ac;obtain ⟨c0,c1⟩:=cQ2 k5;have c2:Y3.cell? ⟨w.heap.size,0,U⟩=Z (H A n c):=(k4.cell 0).trans rfl;go_wp2_with fail
    refine (HP.out _ (hB.below ai)).mono ?_;rintro e Y4 ⟨rfl,ao⟩;have bE:=zAa ai ao ai.size;clear ai ao k4 k5 c0 c1 c2;go_wp2_with fail
    go_ret;exact ⟨by rw [q1];simp,bE⟩
   ·have q1:(K==(n:Int))=E:=by simpa using hK
    clear hK;go_enter Tryz.func83,Tryz.ntmps83;go_wp2_with fail
    generalize ((w.alloc (.cells #[H A n c,D J re,D J lo] 24)).alloc (.cells #[D J K,H B m d] 55))=Y at aa hk0 ag ⊢;refine (HV.out _ (hA.below aa)).mono ?_;rintro e Y2 ⟨rfl,ab⟩;have ac:=zAa aa ab aa.size;have k2:=hk0.below ab hk0.lt;have k3:=ag.below ab ag.lt;clear ab hk0 ag;obtain ⟨c0,c1⟩:=cQ2 k3;go_wp2_with fail
    refine (HC.out _ (hB.below ac)).mono ?_;rintro e Y3 ⟨rfl,aj⟩;have ai:=zAa ac aj ac.size;have k4:=k2.below aj k2.lt;have k5:=k3.below aj k3.lt;clear aj k2 k3 c0 c1 ac;have c0:Y3.cell? ⟨w.heap.size+1,0,U⟩=Z (D J K):=(k5.cell 0).trans rfl;have c2:Y3.cell? ⟨w.heap.size,0,U⟩=Z (H A n c):=(k4.cell 0).trans rfl;go_wp2_with fail
    go_ret;exact ⟨by rw [q1];simp,ai⟩
  ·have q1:(ZT==0)=E:=by simpa using h0
   clear h0;go_enter Tryz.func83,Tryz.ntmps83;go_wp2_with fail
   generalize ((w.alloc (.cells #[H A n c,D J re,D J lo] 24)).alloc (.cells #[D J K,H B m d] 55))=Y at aa hk0 ag ⊢;refine (HV.out _ (hA.below aa)).mono ?_;rintro e Y2 ⟨rfl,ab⟩;have ac:=zAa aa ab aa.size;have k3:=ag.below ab ag.lt;clear ab hk0 ag;obtain ⟨c0,c1⟩:=cQ2 k3;go_wp2_with fail
   refine (HC.out _ (hB.below ac)).mono ?_;rintro e Y3 ⟨rfl,aj⟩;have ai:=zAa ac aj ac.size;clear aj k3 c0 c1 ac;go_wp2_with fail
   go_ret;exact ⟨by rw [q1];simp,ai⟩
theorem zGw {A:Option Addr} {n c:Nat} {F:List Fg} {re lo K:Int} {B:Option Addr} {m d:Nat} {L:List Lt} {b:Bool} (h:zCc F re lo K L=b) (w:World) (hA:Fgs w A n F) (hc:n≤c) (hB:Lets w B m L) :
  Calls Tryz.prog 83 #[frV A n c re lo,.agg #[D J K,H B m d]] w fun e w'=>e=.returned (G b)∧Below w.heap.size w w':=by
 subst h;exact zNZ A n c F re lo K B m d L w hA hc hB
set_option maxHeartbeats 3200000 in
theorem zLZ (A:Option Addr) (n c:Nat) (F:List Fg) (re lo K:Int) (B:Option Addr) (m d:Nat) (L:List Lt) (w:World) (hA:Fgs w A n F) (hc:n≤c) (hB:Lets w B m L) :
  Calls Tryz.prog 74 #[frV A n c re lo,.agg #[D J K,H B m d]] w fun e w'=>e=.returned (D J (zDl F re lo K L))∧Below w.heap.size w w':=by
 have aa:Below w.heap.size w ((w.alloc (.cells #[H A n c,D J re,D J lo] 24)).alloc (.cells #[D J K,H B m d] 55)):=((Below.refl _ _).alloc (Nat.le_refl _) _).alloc (by simp) _;have hk0:Blk ((w.alloc (.cells #[H A n c,D J re,D J lo] 24)).alloc (.cells #[D J K,H B m d] 55)) w.heap.size 24 #[H A n c,D J re,D J lo]:=(Blk.new w _ _).alloc _;have ag:Blk ((w.alloc (.cells #[H A n c,D J re,D J lo] 24)).alloc (.cells #[D J K,H B m d] 55)) (w.heap.size+1) 55 #[D J K,H B m d]:=heap_alloc2_new w _ _;obtain ⟨v,hv⟩:∃v,frB F re lo=v:=⟨_,rfl⟩
 obtain ⟨ZT,hE⟩:∃ZT,zAy K L=ZT:=⟨_,rfl⟩
 obtain ⟨p,hp⟩:∃p,zCc F re lo K L=p:=⟨_,rfl⟩
 have HV:=qH (fun wx (hx:Fgs wx A n F)=>zFh hv A n c wx hx hc);have HC:=qH (fun wx (hx:Lets wx B m L)=>zMR (c:=d) hE wx hx);have HP:=qH (fun wx (hx:Fgs wx A n F) (hy:Lets wx B m L)=>zGw (d:=d) hp wx hx hc hy);have HR:=qH (show zDl F re lo K L=if v=E then 2 else if ZT≠0 then ZT else if p then 0 else 2 by unfold zDl;rw [hv,hE,hp]);clear hv hE hp;go_enter Tryz.func74,Tryz.ntmps74;go_wp2_with fail
 generalize ((w.alloc (.cells #[H A n c,D J re,D J lo] 24)).alloc (.cells #[D J K,H B m d] 55))=Y at aa hk0 ag ⊢;refine (HV.out _ (hA.below aa)).mono ?_;rintro e Y2 ⟨rfl,ab⟩;have ac:=zAa aa ab aa.size;have k2:=hk0.below ab hk0.lt;have k3:=ag.below ab ag.lt;clear ab hk0 ag aa
 cases v with
 | false =>
  have jR:=qH (HR.out.trans (if_pos rfl));clear HR;go_wp2_with fail
  go_ret;exact ⟨zGC jR.out.symm,ac⟩
 | true =>
  obtain ⟨c0,c1⟩:=cQ2 k3;go_wp2_with fail
  refine (HC.out _ (hB.below ac)).mono ?_;rintro e Y3 ⟨rfl,aj⟩;have ai:=zAa ac aj ac.size;have k4:=k2.below aj k2.lt;have k5:=k3.below aj k3.lt;clear aj k2 k3 c0 c1 ac;by_cases h0:ZT=0
  ·subst h0;obtain ⟨c0,c1⟩:=cQ2 k5;obtain ⟨c2,c3,c4⟩:=cQ3 k4;go_wp2_with fail
   refine (HP.out _ (hA.below ai) (hB.below ai)).mono ?_;rintro e Y4 ⟨rfl,ao⟩;have bE:=zAa ai ao ai.size;clear ai ao k4 k5 c0 c1 c2 c3 c4
   cases p with
   | false =>
    have jR:=qH (show zDl F re lo K L=2 by rw [HR.out];simp);clear HR;go_wp2_with fail
    go_ret;exact ⟨zGC jR.out.symm,bE⟩
   | true =>
    have jR:=qH (show zDl F re lo K L=0 by rw [HR.out];simp);clear HR;go_wp2_with fail
    go_ret;exact ⟨zGC jR.out.symm,bE⟩
  ·have q1:(ZT != 0)=Q:=by simpa using h0
   have jR:=qH (show zDl F re lo K L=ZT by rw [HR.out,if_neg (by simp),if_pos h0]);clear h0 HR;go_wp2_with fail
   go_ret;exact ⟨zGC jR.out.symm,ai⟩
theorem zHV {F:List Fg} {re lo K:Int} {L:List Lt} (h:zDl F re lo K L=0):zCc F re lo K L=Q∧frOk F re lo∧zAy K L=0∧K=(F.length:Int)∧zCJ L=Q:=by
 have hp:zCc F re lo K L=Q:=by
  unfold zDl at h;split at h
  ·omega
  ·split at h
   ·rename_i h1 h2;exact absurd h h2
   ·split at h
    ·rename_i h3;exact h3
    ·omega
 have hq:=hp;unfold zCc at hq;simp only [Bool.and_eq_true,beq_iff_eq] at hq;exact ⟨hp,zCT.1 hq.1.1.1,hq.1.1.2,hq.1.2,hq.2⟩
end Go.Proofs.YtlmdfmnbcndhoaaGreatDoor
namespace Go.Proofs.YtlmdfmnbcndhoaaGreatDoor
open Go.RowKit
structure Bi where
 f:Int
 n:Int
 b:Bool
instance : DecidableEq Bi := fun x y =>
 if h:x.f=y.f∧x.n=y.n∧x.b=y.b then .isTrue (by cases x;cases y;simp at h;simp [h])
 else .isFalse (fun e=>h (by subst e;simp))
def bi0:Bi:=⟨0,0,E⟩
def ba (l:List Bi) (i:Nat):Bi:=(l[i]?).getD bi0
theorem zCK {l:List Bi} {i:Nat} (h:i < l.length):l[i]? = Z (ba l i):=by unfold ba;rw [List.getElem?_eq_getElem h];rfl
theorem zWz {l:List Bi} {i:Nat} {x:Bi} (h:l[i]? = Z x):ba l i=x:=by unfold ba;rw [h];rfl
def zGX (x:List UInt8):List UInt8×List UInt8×Bool:=Lib.cut x.dropLast [46]
def zAZ (x:List UInt8) (c:UInt8):Bool:=decide (x.getLast? = Z c)
noncomputable def zGY (L:List Fg) (x:List UInt8):Bi :=
 if (zGX x).2.2 then ⟨if zDE L (zGX x).1=0 then -1 else (zDE L (zGX x).1:Int),(zAr (zGX x).2.1).1,zAZ x 62⟩
 else ⟨0,(zAr x.dropLast).1,zAZ x 111⟩
noncomputable def zIJ (x:List UInt8):Bool :=
 if (zGX x).2.2 then (zKz (zGX x).1||!(zAZ x 62||zAZ x 60))||!(zAr (zGX x).2.1).2
 else !(zAZ x 111||zAZ x 117)||!(zAr x.dropLast).2
def zPY (x:List UInt8):Bool:=!(zGX x).2.2
noncomputable def zRs (L:List Fg) (x:List UInt8):Bool:=(zGX x).2.2&&zEM L (zGX x).1
def zMa (T:List (List UInt8)):Bool:=match T with
 | []=>E
 | x :: _=>zPY x
noncomputable def zBY (T:List (List UInt8)):Bool:=T.any zIJ||zMa T
noncomputable def zCQ (L:List Fg) (T:List (List UInt8)):Bool:=T.any (zRs L)
theorem zIK (T:List (List UInt8)) (x:List UInt8):zBY (T++[x])=(zBY T||(zIJ x||(T.isEmpty&&zPY x))):=by
 unfold zBY
 cases T with
 | nil=>simp [zMa]
 | cons y T =>
  simp only [List.cons_append,List.any_cons,List.any_append,List.any_nil,zMa,List.isEmpty_cons,Bool.false_and,Bool.or_false]
  cases zIJ y<;>cases T.any zIJ<;>cases zIJ x<;>cases zPY y<;>rfl
theorem zIL (L:List Fg) (T:List (List UInt8)) (x:List UInt8):zCQ L (T++[x])=(zCQ L T||zRs L x):=by simp [zCQ]
def zEX (b:Bi):Bi:=if 0 < b.f then ⟨b.f,b.n,E⟩ else b
def zHW (l:List Bi) (f:Int):Nat:=l.countP fun b=>decide (0 < b.f)&&b.f==f
def zCN (l:List Bi):Nat:=l.countP fun b=>!decide (0 < b.f)
def zBQ (k:Nat) (l:List Bi):List Int:=(List.range (k+2)).map fun f:Nat=>((zHW l (f:Int):Nat):Int)
def zGH (l:List Bi) (b:Bi):Bool:=(decide (0 < b.f)&&decide ((zHW l b.f:Int) < b.n))||(b.f==0&&(decide (((zCN l / 2:Nat):Int) < b.n)||zCN l % 2 != 0))
def zBJ (l:List Bi):Bool:=decide ((l.map zEX).Nodup)&&l.all fun b=>!zGH l b
def ia (M:List Int) (i:Int):Int:=(M[i.toNat]?).getD 0
def zGj (M:List Int) (b:Bi):List Lt :=
 if b.f=0 then [⟨2,0,0,b.n,0,b.b⟩]
 else if b.b then [⟨1,b.f-1,ia M (b.f-1)+b.n,0,0,E⟩,⟨1,b.f,ia M b.f-b.n+1,0,0,E⟩]
 else [⟨1,b.f,ia M b.f-b.n+1,0,0,E⟩,⟨1,b.f-1,ia M (b.f-1)+b.n,0,0,E⟩]
def zAK (M:List Int) (l:List Bi):List Lt:=l.flatMap (zGj M)
theorem zPZ (M:List Int) (b:Bi):(zGj M b).length≤2:=by
 unfold zGj;split
 ·simp
 ·split<;>simp
theorem zOa (M:List Int) (l:List Bi):(zAK M l).length≤2*l.length:=by
 unfold zAK
 induction l with
 | nil=>simp
 | cons b l ih=>rw [List.flatMap_cons,List.length_append,List.length_cons];have:=zPZ M b;omega
theorem zGk (l:List Bi) (f:Int):zHW l f≤l.length:=List.countP_le_length
theorem zGl (l:List Bi):zCN l≤l.length:=List.countP_le_length
theorem zET (k:Nat) (l:List Bi) {f:Nat} (h:f < k+2):(zBQ k l)[f]? = Z ((zHW l (f:Int):Nat):Int):=by
 unfold zBQ;rw [List.getElem?_map,List.getElem?_range h];rfl
theorem zGZ (k:Nat) (l:List Bi):(zBQ k l).length=k+2:=by simp [zBQ]
theorem zSq (l:List Bi) {f:Int} (h:f≤0):zHW l f=0:=by
 unfold zHW;rw [List.countP_eq_zero];intro b _;simp only [Bool.and_eq_true,decide_eq_true_eq,beq_iff_eq,not_and];omega
theorem zQa {l:List Bi} {b:Bi} {f:Int} (h:0 < b.f) (e:b.f=f):zHW (l++[b]) f=zHW l f+1:=by
 unfold zHW;rw [List.countP_append,List.countP_singleton,if_pos (by simp [e];omega)]
theorem zMS {l:List Bi} {b:Bi} {f:Int} (h:¬(0 < b.f∧b.f=f)):zHW (l++[b]) f=zHW l f:=by
 unfold zHW;rw [List.countP_append,List.countP_singleton,if_neg (by simpa using h),Nat.add_zero]
theorem zQb {l:List Bi} {b:Bi} (h:¬0 < b.f):zCN (l++[b])=zCN l+1:=by
 unfold zCN;rw [List.countP_append,List.countP_singleton,if_pos (by simpa using h)]
theorem zTz {l:List Bi} {b:Bi} (h:0 < b.f):zCN (l++[b])=zCN l:=by
 unfold zCN;rw [List.countP_append,List.countP_singleton,if_neg (by simp [h]),Nat.add_zero]
theorem zSr (k:Nat) (l:List Bi) {b:Bi} {f:Nat} (h0:0 < b.f) (e:b.f=(f:Int)):(zBQ k l).set f ((zHW l (f:Int):Int)+1)=zBQ k (l++[b]):=by
 apply List.ext_getElem?;intro i;rw [List.getElem?_set];by_cases hi:i < k+2
 ·rw [zET k _ hi];by_cases hf:f=i
  ·subst hf;rw [if_pos rfl,zGZ,if_pos hi,zET k _ hi,zQa h0 e];rfl
  ·rw [if_neg hf,zET k _ hi,zMS (fun h=>hf (by omega))]
 ·rw [List.getElem?_eq_none (by rw [zGZ];omega),List.getElem?_eq_none (by rw [zGZ];omega),zGZ];split
  ·rename_i h1;rw [h1,if_neg hi]
  ·rfl
theorem zQc (k:Nat) (l:List Bi) {b:Bi} (h0:¬0 < b.f):zBQ k (l++[b])=zBQ k l:=by
 unfold zBQ;exact List.map_congr_left fun f _=>by rw [zMS (fun h=>h0 h.1)]
def sgI (cr nu:Nat) (l:Lt):Int:=if (nu >>> (cr-l.id.toNat)) % 2=1 then 1 else -1
def sgL (cr nu:Nat) (l:Lt):Lt:=if isC l then { l with sign:=sgI cr nu l } else l
def zBB (cr nu:Nat) (L:List Lt):List Lt:=L.map (sgL cr nu)
def zWA (L:List Lt) (i:Nat):Int:=if (la L i).gate≤(la L (i+1)).gate then (la L (i+1)).gate else (la L i).gate
def lpC (L:List Lt) (g:Int) (m:Nat):Nat:=zAf (fun i=>(isP (la L i)&&dwn L i)&&zWA L i==g) m
def zBZ (K:Nat) (L:List Lt) (m:Nat):List Int:=(List.range (K+2)).map fun g:Nat=>((lpC L (g:Int) m:Nat):Int)
theorem zFE (K:Nat) (L:List Lt) (m:Nat) {g:Nat} (h:g < K+2):(zBZ K L m)[g]? = Z ((lpC L (g:Int) m:Nat):Int):=by
 unfold zBZ;rw [List.getElem?_map,List.getElem?_range h];rfl
theorem zFF (K:Nat) (L:List Lt) (m:Nat):(zBZ K L m).length=K+2:=by simp [zBZ]
theorem zQd (L:List Lt) (g:Int) (m:Nat):lpC L g m≤m:=zBs _ _
theorem zQe (K:Nat) (L:List Lt) {m g:Nat} (h:(isP (la L m)&&dwn L m)=Q) (e:zWA L m=(g:Int)):(zBZ K L m).set g ((lpC L (g:Int) m:Int)+1)=zBZ K L (m+1):=by
 apply List.ext_getElem?;intro i;rw [List.getElem?_set];by_cases hi:i < K+2
 ·rw [zFE K L _ hi];by_cases hf:g=i
  ·subst hf;rw [if_pos rfl,zFF,if_pos hi,zFE K L _ hi,show lpC L (g:Int) (m+1)=lpC L (g:Int) m+1 from zAA (by rw [h,e];simp)];rfl
  ·rw [if_neg hf,zFE K L _ hi,show lpC L (i:Int) (m+1)=lpC L (i:Int) m from zAp (by rw [h,e];simp;omega)]
 ·rw [List.getElem?_eq_none (by rw [zFF];omega),List.getElem?_eq_none (by rw [zFF];omega),zFF];split
  ·rename_i h1;rw [h1,if_neg hi]
  ·rfl
theorem zIM (K:Nat) (L:List Lt) {m:Nat} (h:(isP (la L m)&&dwn L m)=E):zBZ K L (m+1)=zBZ K L m:=by
 unfold zBZ;exact List.map_congr_left fun g _=>by rw [show lpC L (g:Int) (m+1)=lpC L (g:Int) m from zAp (by rw [h];rfl)]
theorem zOb (K:Nat) (L:List Lt):zBZ K L 0=List.replicate (K+2) 0:=by
 unfold zBZ;rw [List.eq_replicate_iff]
 exact ⟨by simp,fun b hb=>by
  obtain ⟨g,_,rfl⟩:=List.mem_map.1 hb
  simp [lpC,zAf]⟩
theorem zSs (k:Nat):zBQ k []=List.replicate (k+2) 0:=by
 unfold zBQ;rw [List.eq_replicate_iff]
 exact ⟨by simp,fun b hb=>by
  obtain ⟨g,_,rfl⟩:=List.mem_map.1 hb
  simp [zHW]⟩
def zCa (L:List Lt) (i:Nat):Lt:=if (la L (i+1)).gate < (la L i).gate then la L (i+1) else la L i
def zTA (L:List Lt) (i:Nat):UInt8:=if (la L (i+1)).gate < (la L i).gate then 60 else 62
def zXJ (l:Lt):List UInt8:=Lib.itoa l.id++[if l.over then 111 else 117]
def zMT (F:List Fg) (L:List Lt) (i:Nat):List UInt8:=nmF F ((zCa L i).gate+1)++[46]++Lib.itoa ((zCa L i).rank-(lpC L (zCa L i).gate L.length:Int))++[zTA L i]
def zIm (F:List Fg) (L:List Lt) (i:Nat):List (List UInt8) :=
 if isC (la L i) then [zXJ (la L i)] else if dwn L i then [zMT F L i] else []
def zGm (F:List Fg) (L:List Lt) (m:Nat):List (List UInt8):=(List.range m).flatMap (zIm F L)
theorem zEt (F:List Fg) (L:List Lt) (m:Nat):zGm F L (m+1)=zGm F L m++zIm F L m:=by simp [zGm,List.range_succ]
def zDm:List UInt8:=[98,97,114,101]
def zTB (F:List Fg) (L:List Lt):List UInt8:=if L.length=0 then zDm else Lib.join (zGm F L L.length) [32]
end Go.Proofs.YtlmdfmnbcndhoaaGreatDoor
namespace Go.Proofs.YtlmdfmnbcndhoaaGreatDoor
def Arcs (L:List Lt):Prop:=∀i,i < L.length→isP (la L i)=Q→dwn L i=Q→i+1 < L.length∧isP (la L (i+1))=Q
section
variable {K:Int} {L:List Lt} {a:Nat}
theorem zUW {v:Nat} (h:isP (la L v)=Q) (hc:isC (la L v)=Q):False:=by rw [zOH h] at hc;cases hc
theorem zUX {v:Nat} (h:isC (la L v)=Q):isP (la L v)=E:=by
 cases hq:isP (la L v) with
 | false=>rfl
 | true=>exact (zUW hq h).elim
variable {X:Nat→Nat}
end
section
variable {K:Int} {L:List Lt}
end
end Go.Proofs.YtlmdfmnbcndhoaaGreatDoor
