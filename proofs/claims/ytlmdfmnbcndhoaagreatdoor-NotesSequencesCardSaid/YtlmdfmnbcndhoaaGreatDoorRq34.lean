/-
  Lemmas, part 34. Conditions: each theorem's own.
-/
import Derived.Test.YtlmdfmnbcndhoaaGreatDoorRq27
import Derived.Test.YtlmdfmnbcndhoaaGreatDoorRq33
import Derived.Test.YtlmdfmnbcndhoaaGreatDoorRq02
import Derived.Test.YtlmdfmnbcndhoaaGreatDoorRq03
open Go.Value renaming bool→G,int→D,slice→H,string→W
open Go.IntKind renaming i64→J
open Bool renaming false→E,true→Q
open Option renaming none→U,some→Z
namespace Go.Proofs.YtlmdfmnbcndhoaaGreatDoor
open Go.RowKit
def nxL (L:List Lt) (i:Nat):Lt:=la L ((i+1) % L.length)
def neB (L:List Lt) (i:Nat):Bool:=isP (nxL L i)&&((nxL L i).gate-(la L i).gate==1||(la L i).gate-(nxL L i).gate==1)
def poB (L:List Lt) (i:Nat):Bool:=!(isP (la L i)&&dwn L i)||neB L i
def zCQ (L:List Lt):Bool:=zDl (poB L) L.length
theorem zMi (l:Lt) (w:World):Calls Tryz.prog 168 #[.agg #[D J l.kind,D J l.gate,D J l.rank,D J l.id,D J l.sign,G l.over]] w fun e w'=>e=.returned (G (isP l))∧Below w.heap.size w w':=by
 have hb:=(Below.refl w.heap.size w).alloc (Nat.le_refl _) (.cells #[D J l.kind,D J l.gate,D J l.rank,D J l.id,D J l.sign,G l.over] 76);have HR:=qH (show isP l=(l.kind==1) from rfl);rw [HR.out];go_enter Tryz.func168,Tryz.ntmps168;go_wp2_with fail
 go_ret;exact ⟨rfl,hb⟩
theorem zKU {l:Lt} {b:Bool} (h:isP l=b) (w:World):Calls Tryz.prog 168 #[.agg #[D J l.kind,D J l.gate,D J l.rank,D J l.id,D J l.sign,G l.over]] w fun e w'=>e=.returned (G b)∧Below w.heap.size w w':=by
 subst h;exact zMi l w
set_option maxHeartbeats 6400000 in
set_option maxRecDepth 100000 in
theorem zOz (K:Int) (A:Option Addr) (n c:Nat) (L:List Lt) (w:World) (hA:Lets w A n L) (hn:n≤400) (hg:∀i,i < n→isP (la L i)=Q→0≤(la L i).gate∧(la L i).gate≤40) :
  Calls Tryz.prog 130 #[.agg #[D J K,H A n c]] w fun e w'=>e=.returned (G (zCQ L))∧Below w.heap.size w w':=by
 have aD:L.length=n:=hA.len;have aa:=(Below.refl w.heap.size w).alloc (Nat.le_refl _) (.cells #[D J K,H A n c] 55);have hk0:Blk (w.alloc (.cells #[D J K,H A n c] 55)) w.heap.size 55 #[D J K,H A n c]:=Blk.new _ _ _;have hc1:(w.alloc (.cells #[D J K,H A n c] 55)).cell? ⟨w.heap.size,1,U⟩=Z (H A n c):=(hk0.cell 1).trans rfl;have HN:=qH aD;have HG:=qH hg;clear aD hg;go_enter Tryz.func130,Tryz.ntmps130;go_wp2_with fail
 generalize w.alloc (.cells #[D J K,H A n c] 55)=Y at aa hk0 hc1 ⊢;go_loopw [3,10] (fun v3 v10 wr=>∃(i:Nat) (X:World),X=wr∧i≤n∧v10=D J i∧v3=G (!dwn L i)∧Below Y.heap.size Y X∧Hid (∀j,j < i→poB L j=Q)) (fun _ v10 _=>n-(intOf v10).toNat)
 case atStart=>exact ⟨0,_,rfl,by omega,rfl,rfl,Below.refl _ _,qH (fun j hj=>by omega)⟩
 case round =>
  obtain ⟨i,X,hX,hi,rfl,rfl,hb,HS⟩:=hrel;subst hX;have cT:=(hA.below aa).below hb;by_cases hlt:i < n
  ·have j0:(0:Int)≤(i:Int):=by omega
   have j1:(i:Int) < (n:Int):=by omega
   obtain ⟨g,o,rfl,hgl,hat,hok⟩:=cT.at_ hlt;have x0:=hat.kind;have x1:=hat.gate;have x2:=hat.rank;have x3:=hat.id;have x4:=hat.sign;have x5:=hat.over;obtain ⟨b,hbp⟩:∃b,isP (la L i)=b:=⟨_,rfl⟩
   have yB:=qH (fun wx=>zKU hbp wx);have aJ:=(Below.refl X.heap.size X).alloc (Nat.le_refl _) (.cells #[D J (la L i).kind,D J (la L i).gate,D J (la L i).rank,D J (la L i).id,D J (la L i).sign,G (la L i).over] 76);have xE:Blk (X.alloc (.cells #[D J (la L i).kind,D J (la L i).gate,D J (la L i).rank,D J (la L i).id,D J (la L i).sign,G (la L i).over] 76)) X.heap.size 76 #[D J (la L i).kind,D J (la L i).gate,D J (la L i).rank,D J (la L i).id,D J (la L i).sign,G (la L i).over]:=Blk.new _ _ _;have r9:=zAa hb aJ hb.size;go_wp2_with fail
   clear x0 x1 x2 x3 x4 x5;generalize X.alloc (.cells #[D J (la L i).kind,D J (la L i).gate,D J (la L i).rank,D J (la L i).id,D J (la L i).sign,G (la L i).over] 76)=X2 at aJ xE r9 ⊢;refine (yB.out X2).mono ?_;rintro e X3 ⟨rfl,ac⟩;have lv:=zAa r9 ac r9.size;have nA:=xE.below ac xE.lt;generalize X.heap.size=b5 at nA ⊢;clear aJ xE r9 ac hat;have HBP:=qH hbp
   cases b with
   | false =>
    have hd1:dwn L (i+1)=dwn L i:=zVO hbp
    have eJ:=qH (show ∀j,j < i+1→poB L j=Q from fun j hj=>by
     rcases Nat.decEq j i with e | e
     ·exact HS.out j (by omega)
     ·rw [e];unfold poB;rw [hbp];rfl)
    have HD:=qH hd1;clear hbp hd1 hok nA cT hb;go_wp2_with fail
    go_roundw
    case rel=>exact ⟨i+1,_,rfl,by omega,by go_num,by rw [HD.out],lv,eJ⟩
    case measure=>simp [intOf];omega
   | true =>
    have hd1:dwn L (i+1) = !dwn L i:=zPe hbp;have HD:=qH hd1;have hgi:=HG.out i hlt hbp;obtain ⟨t,ht⟩:∃t,t=(i+1) % n:=⟨_,rfl⟩
    have htn:t < n:=by rw [ht];exact Nat.mod_lt _ (by omega)
    obtain ⟨g',o',he,hgl',hat',hok'⟩:=cT.at_ htn;injection he with he
    injection he with he1 he2
    subst he1;subst he2;have ig:=qH (show nxL L i=la L t by unfold nxL;rw [HN.out,←ht]);have hgt:=HG.out t htn;have bj:=hk0.below lv hk0.lt;have sH:=(hA.below aa).below lv;have c3:X3.cell? ⟨w.heap.size,1,U⟩=Z (H (Z ⟨g,o,U⟩) n c):=(bj.cell 1).trans rfl;obtain ⟨y0,y1,y2,y3,y4,y5⟩:=(sH.also htn).1;have q3:((i:Int)+1) % (n:Int)=(t:Int):=by rw [ht];simp
    have fV:((i:Int)+1).tmod (n:Int)=(t:Int):=by rw [Int.tmod_eq_emod_of_nonneg (by omega)];exact q3
    have gp:IntKind.i64.wrap ((i:Int)+1)=(i:Int)+1:=IntWalk.i64_in _ (by omega);have fU:IntKind.i64.wrap (t:Int)=(t:Int):=IntWalk.i64_in _ (by omega);have zh:¬n=0:=by omega
    have q4:(0:Int)≤(t:Int):=by omega
    have q5:(t:Int) < (n:Int):=by omega
    have bN:=(Below.refl X3.heap.size X3).alloc (Nat.le_refl _) (.cells #[D J (la L t).kind,D J (la L t).gate,D J (la L t).rank,D J (la L t).id,D J (la L t).sign,G (la L t).over] 76);have kN:Blk (X3.alloc (.cells #[D J (la L t).kind,D J (la L t).gate,D J (la L t).rank,D J (la L t).id,D J (la L t).sign,G (la L t).over] 76)) X3.heap.size 76 #[D J (la L t).kind,D J (la L t).gate,D J (la L t).rank,D J (la L t).id,D J (la L t).sign,G (la L t).over]:=Blk.new _ _ _;have lN:=nA.below bN nA.lt;have n9:=zAa lv bN lv.size;obtain ⟨d,hd⟩:∃d,dwn L i=d:=⟨_,rfl⟩
    rw [hd] at hd1 HD ⊢;have lO:=qH hd;have bZ:=(Below.refl X3.heap.size X3).alloc (Nat.le_refl _) (.cells #[D J 0,D J 0,D J 0,D J 0,D J 0,G E] 76);have c3z:(X3.alloc (.cells #[D J 0,D J 0,D J 0,D J 0,D J 0,G E] 76)).cell? ⟨w.heap.size,1,U⟩=Z (H (Z ⟨g,o,U⟩) n c):=((bj.below bZ bj.lt).cell 1).trans rfl;obtain ⟨z0,z1,z2,z3,z4,z5⟩:=((sH.below bZ).also htn).1;clear ht hbp hd1 hok cT hb hd bZ;go_upto_region 7 with fail
    go_region
    clear c3 c3z y0 y1 y2 y3 y4 y5 z0 z1 z2 z3 z4 z5 q3 fV gp fU zh q4 q5 bj sH nA bN;generalize X3.alloc (.cells #[D J (la L t).kind,D J (la L t).gate,D J (la L t).rank,D J (la L t).id,D J (la L t).sign,G (la L t).over] 76)=X4 at kN lN n9 ⊢;generalize X3.heap.size=b6 at kN ⊢;have kN:=kN.drew;have lN:=lN.drew;have n9:=n9.drew;generalize X4.drew=X5 at kN lN n9 ⊢;obtain ⟨f0,f1,f2,f3,f4,f5⟩:=cQ6 kN
    cases d with
    | false =>
     have ik:poB L i=Q:=by unfold poB;rw [lO.out,Bool.and_false];rfl
     have eJ:=qH (show ∀j,j < i+1→poB L j=Q from fun j hj=>by
      rcases Nat.decEq j i with e | e
      ·exact HS.out j (by omega)
      ·rw [e];exact ik)
     clear ik HS;go_wp2_with fail
     go_roundw
     case rel=>exact ⟨i+1,_,rfl,by omega,by go_num,by rw [HD.out];rfl,n9,eJ⟩
     case measure=>simp [intOf];omega
    | true =>
     obtain ⟨p,hp⟩:∃p,isP (la L t)=p:=⟨_,rfl⟩
     have ta:=qH (fun wx=>zKU hp wx);have hpe:poB L i=(p&&((la L t).gate-(la L i).gate==1||(la L i).gate-(la L t).gate==1)):=by
      unfold poB neB;rw [lO.out,HBP.out,ig.out,hp];rfl
     have tW:=qH hpe;have HP:=qH hp;clear hpe hp
     cases p with
     | false =>
      have HF:=qH (show zCQ L=E from zDm (by rw [HN.out];exact hlt) (by rw [tW.out];rfl));clear HS;go_wp2_with fail
      refine (ta.out X5).mono ?_;rintro e X6 ⟨rfl,ao⟩;have hbw:=zAa aa (zAa n9 ao n9.size) aa.size;clear f0 f1 f2 f3 f4 f5 ao;go_wp2_with fail
      go_ret;exact ⟨by rw [HF.out];rfl,hbw⟩
     | true =>
      have Ac:=hgt HP.out;obtain ⟨x,hx⟩:∃x,(la L i).gate=x:=⟨_,rfl⟩
      obtain ⟨y,hy⟩:∃y,(la L t).gate=y:=⟨_,rfl⟩
      have BM:=qH (show poB L i=(y-x==1||x-y==1) by rw [tW.out,hx,hy];rfl);rw [hx] at hgi lN;rw [hy] at Ac f1 kN;clear hgt tW;have D2:∀q,q=(y-x==1||x-y==1)→q=E→Hid (zCQ L=E):=fun q h1 h2=>qH (zDm (by rw [HN.out];exact hlt) (by rw [BM.out,←h1,h2]))
      have Fk:=qH D2
      have eJ:=qH (show ∀q,q=(y-x==1||x-y==1)→q=Q→∀j,j < i+1→poB L j=Q from fun q h1 h2 j hj=>by
       rcases Nat.decEq j i with e | e
       ·exact HS.out j (by omega)
       ·rw [e,BM.out,←h1,h2])
      have s9:=qH (ta.out X5);rw [hy] at s9;clear D2 HS hx hy BM ta;go_wp2_with fail
      refine s9.out.mono ?_;rintro e X6 ⟨rfl,ao⟩;have Am:=zAa n9 ao n9.size;have hbw:=zAa aa Am aa.size;have k6:=kN.below ao kN.lt;have l6:=lN.below ao lN.lt;clear f0 f1 f2 f3 f4 f5 ao kN lN s9;have f1:X6.cell? ⟨b6,1,U⟩=Z (D J y):=(k6.cell 1).trans rfl;have g1:X6.cell? ⟨b5,1,U⟩=Z (D J x):=(l6.cell 1).trans rfl;have w1:wrap64 (y-x)=y-x:=by unfold wrap64;omega
      have w2:wrap64 (x-y)=x-y:=by unfold wrap64;omega
      have w3:IntKind.i64.wrap (y-x)=y-x:=IntWalk.i64_in _ (by omega);have w4:IntKind.i64.wrap (x-y)=x-y:=IntWalk.i64_in _ (by omega);clear k6 l6;by_cases c1:y-x=1
      ·have d1:(y-x != 1)=E:=by simpa using c1
       have sU:=qH (eJ.out Q (by simp [c1]) rfl);clear c1 eJ;go_wp2_with fail
       go_roundw
       case rel=>exact ⟨i+1,_,rfl,by omega,by go_num,by rw [HD.out];rfl,Am,sU⟩
       case measure=>simp [intOf];omega
      ·have d1:(y-x != 1)=Q:=by simpa using c1
       by_cases c2:x-y=1
       ·have d2:(x-y != 1)=E:=by simpa using c2
        have sU:=qH (eJ.out Q (by simp [c2]) rfl);clear c1 c2 eJ;go_wp2_with fail
        go_roundw
        case rel=>exact ⟨i+1,_,rfl,by omega,by go_num,by rw [HD.out];rfl,Am,sU⟩
        case measure=>simp [intOf];omega
       ·have d2:(x-y != 1)=Q:=by simpa using c2
        have HF:=Fk.out E (by simp [c1,c2]) rfl;clear c1 c2 eJ Fk;go_wp2_with fail
        go_ret;exact ⟨by rw [HF.out];rfl,hbw⟩
  ·have j1:¬(i:Int) < (n:Int):=by omega
   have hr:=qH (show zCQ L=Q by
    unfold zCQ
    rw [HN.out]
    exact zAv.2 (fun j hj=>HS.out j (by omega)))
   have hbw:=zAa aa hb aa.size;clear hlt HS cT hb;go_wp2_with fail
   go_ret;exact ⟨by rw [hr.out];rfl,hbw⟩
end Go.Proofs.YtlmdfmnbcndhoaaGreatDoor
namespace Go.Proofs.YtlmdfmnbcndhoaaGreatDoor
structure Tame (K:Int) (L:List Lt):Prop where
 lo:0≤K
 hi:K≤40
 len:L.length≤400
 pass:∀i,i < L.length→isP (la L i)=Q→0≤(la L i).gate∧(la L i).gate≤K∧1≤(la L i).rank∧(la L i).rank≤400
 kinds:∀i,i < L.length→isP (la L i)=Q∨isC (la L i)=Q
 sign:∀i,i < L.length→isC (la L i)=Q→(la L i).sign=1∨(la L i).sign = -1
theorem zEY {K:Int} {L:List Lt} (h:zAC K L=0):0≤K∧K≤40∧L.length≤400∧(L.length=0∨zAQ K L=Q):=by
 unfold zAC at h;by_cases h1:400 < L.length∨200 < cN L L.length
 ·rw [if_pos h1] at h;cases h
 ·rw [if_neg h1] at h;by_cases h2:K < 0∨40 < K
  ·rw [if_pos h2] at h;cases h
  ·rw [if_neg h2] at h;by_cases h3:L.length=0
   ·exact ⟨by omega,by omega,by omega,.inl h3⟩
   ·rw [if_neg h3] at h
    cases hv:zAQ K L with
    | true=>exact ⟨by omega,by omega,by omega,.inr rfl⟩
    | false=>rw [hv] at h;cases h
theorem zCq {K:Int} {L:List Lt} (h:zAC K L=0):Tame K L:=by
 obtain ⟨h1,h2,h3,h4⟩:=zEY h;rcases h4 with h4 | h4
 ·exact ⟨h1,h2,h3,fun i hi=>by omega,fun i hi=>by omega,fun i hi=>by omega⟩
 ·rcases Nat.eq_zero_or_pos L.length with h0 | h0
  ·exact ⟨h1,h2,h3,fun i hi=>by omega,fun i hi=>by omega,fun i hi=>by omega⟩
  ·have g:=zDo h0 h4;refine ⟨h1,h2,h3,fun i hi hp=>?_,g.kinds,fun i hi hc=>?_⟩
   ·have a1:=g.gates i hi hp;have a2:=g.rank hp;have a3:gN L (la L i).gate L.length≤L.length:=zBt _ _;omega
   ·unfold zAQ at h4;rw [←zCb] at h4;simp only [Bool.and_eq_true] at h4;have h5:=h4.1.2.1.1;unfold zAB at h5;have h6:=zAv.1 h5 i hi;have k2:(la L i).kind=2:=by unfold isC at hc;simpa using hc
    unfold lpB at h6;rw [if_neg (by omega),if_pos k2] at h6;simp only [decide_eq_true_eq] at h6;exact h6.2.2
end Go.Proofs.YtlmdfmnbcndhoaaGreatDoor
namespace Go.Proofs.YtlmdfmnbcndhoaaGreatDoor
open Go.RowKit
def zBG (F:List Fg) (re lo K:Int) (L:List Lt):Bool:=frB F re lo&&(zAC K L==0)&&(K==(F.length:Int))&&zCQ L
def zBr (F:List Fg) (re lo K:Int) (L:List Lt):Int:=if frB F re lo=E then 2 else if zAC K L≠0 then zAC K L else if zBG F re lo K L then 0 else 2
theorem zNo {K ZT:Int} {A:Option Addr} {n c:Nat} {L:List Lt} (h:zAC K L=ZT) (w:World) (hA:Lets w A n L):Calls Tryz.prog 122 #[.agg #[D J K,H A n c]] w fun e w'=>e=.returned (D J ZT)∧Below w.heap.size w w':=by
 subst h;exact zOy K A n c L w hA
theorem zSu {K:Int} {A:Option Addr} {n c:Nat} {L:List Lt} {b:Bool} (h:zCQ L=b) (w:World) (hA:Lets w A n L) (h0:zAC K L=0):Calls Tryz.prog 130 #[.agg #[D J K,H A n c]] w fun e w'=>e=.returned (G b)∧Below w.heap.size w w':=by
 have ht:=zCq h0;have hl:=hA.len;subst h;exact zOz K A n c L w hA (by have:=ht.len;omega) (fun i hi hp=>by have:=ht.pass i (by omega) hp;have:=ht.hi;omega)
set_option maxHeartbeats 3200000 in
theorem zOA (A:Option Addr) (n c:Nat) (F:List Fg) (re lo K:Int) (B:Option Addr) (m d:Nat) (L:List Lt) (w:World) (hA:Fgs w A n F) (hc:n≤c) (hB:Lets w B m L) :
  Calls Tryz.prog 83 #[frV A n c re lo,.agg #[D J K,H B m d]] w fun e w'=>e=.returned (G (zBG F re lo K L))∧Below w.heap.size w w':=by
 have aa:Below w.heap.size w ((w.alloc (.cells #[H A n c,D J re,D J lo] 24)).alloc (.cells #[D J K,H B m d] 55)):=((Below.refl _ _).alloc (Nat.le_refl _) _).alloc (by simp) _;have hk0:Blk ((w.alloc (.cells #[H A n c,D J re,D J lo] 24)).alloc (.cells #[D J K,H B m d] 55)) w.heap.size 24 #[H A n c,D J re,D J lo]:=(Blk.new w _ _).alloc _;have ag:Blk ((w.alloc (.cells #[H A n c,D J re,D J lo] 24)).alloc (.cells #[D J K,H B m d] 55)) (w.heap.size+1) 55 #[D J K,H B m d]:=heap_alloc2_new w _ _;have yb:=hA.len;obtain ⟨v,hv⟩:∃v,frB F re lo=v:=⟨_,rfl⟩
 have HV:=qH (fun wx (hx:Fgs wx A n F)=>zFo hv A n c wx hx hc);have HR:=qH (show zBG F re lo K L=(v&&(zAC K L==0)&&(K==(n:Int))&&zCQ L) by unfold zBG;rw [hv,yb]);rw [HR.out];clear hv yb
 cases v with
 | false =>
  go_enter Tryz.func83,Tryz.ntmps83;go_wp2_with fail
  generalize ((w.alloc (.cells #[H A n c,D J re,D J lo] 24)).alloc (.cells #[D J K,H B m d] 55))=Y at aa hk0 ag ⊢;refine (HV.out _ (hA.below aa)).mono ?_;rintro e Y2 ⟨rfl,ab⟩;have ac:=zAa aa ab aa.size;clear ab hk0 ag;go_wp2_with fail
  go_ret;exact ⟨rfl,ac⟩
 | true =>
  obtain ⟨ZT,hE⟩:∃ZT,zAC K L=ZT:=⟨_,rfl⟩
  have HC:=qH (fun wx (hx:Lets wx B m L)=>zNo (c:=d) hE wx hx);rw [hE];have HE:=qH hE;clear hE HR;by_cases h0:ZT=0
  ·subst h0;by_cases hK:K=(n:Int)
   ·have q1:(K==(n:Int))=Q:=by simpa using hK
    obtain ⟨p,hp⟩:∃p,zCQ L=p:=⟨_,rfl⟩
    have HP:=qH (fun wx (hx:Lets wx B m L)=>zSu (c:=d) hp wx hx HE.out);rw [hp];clear hp hK;go_enter Tryz.func83,Tryz.ntmps83;go_wp2_with fail
    generalize ((w.alloc (.cells #[H A n c,D J re,D J lo] 24)).alloc (.cells #[D J K,H B m d] 55))=Y at aa hk0 ag ⊢;refine (HV.out _ (hA.below aa)).mono ?_;rintro e Y2 ⟨rfl,ab⟩;have ac:=zAa aa ab aa.size;have k2:=hk0.below ab hk0.lt;have k3:=ag.below ab ag.lt;clear ab hk0 ag;obtain ⟨c0,c1⟩:=cQ2 k3;go_wp2_with fail
    refine (HC.out _ (hB.below ac)).mono ?_;rintro e Y3 ⟨rfl,ah⟩;have ai:=zAa ac ah ac.size;have k4:=k2.below ah k2.lt;have k5:=k3.below ah k3.lt;clear ah k2 k3 c0 c1 ac;obtain ⟨c0,c1⟩:=cQ2 k5;have c2:Y3.cell? ⟨w.heap.size,0,U⟩=Z (H A n c):=(k4.cell 0).trans rfl;go_wp2_with fail
    refine (HP.out _ (hB.below ai)).mono ?_;rintro e Y4 ⟨rfl,ao⟩;have be:=zAa ai ao ai.size;clear ai ao k4 k5 c0 c1 c2;go_wp2_with fail
    go_ret;exact ⟨by rw [q1];simp,be⟩
   ·have q1:(K==(n:Int))=E:=by simpa using hK
    clear hK;go_enter Tryz.func83,Tryz.ntmps83;go_wp2_with fail
    generalize ((w.alloc (.cells #[H A n c,D J re,D J lo] 24)).alloc (.cells #[D J K,H B m d] 55))=Y at aa hk0 ag ⊢;refine (HV.out _ (hA.below aa)).mono ?_;rintro e Y2 ⟨rfl,ab⟩;have ac:=zAa aa ab aa.size;have k2:=hk0.below ab hk0.lt;have k3:=ag.below ab ag.lt;clear ab hk0 ag;obtain ⟨c0,c1⟩:=cQ2 k3;go_wp2_with fail
    refine (HC.out _ (hB.below ac)).mono ?_;rintro e Y3 ⟨rfl,ah⟩;have ai:=zAa ac ah ac.size;have k4:=k2.below ah k2.lt;have k5:=k3.below ah k3.lt;clear ah k2 k3 c0 c1 ac;have c0:Y3.cell? ⟨w.heap.size+1,0,U⟩=Z (D J K):=(k5.cell 0).trans rfl;have c2:Y3.cell? ⟨w.heap.size,0,U⟩=Z (H A n c):=(k4.cell 0).trans rfl;go_wp2_with fail
    go_ret;exact ⟨by rw [q1];simp,ai⟩
  ·have q1:(ZT==0)=E:=by simpa using h0
   clear h0;go_enter Tryz.func83,Tryz.ntmps83;go_wp2_with fail
   generalize ((w.alloc (.cells #[H A n c,D J re,D J lo] 24)).alloc (.cells #[D J K,H B m d] 55))=Y at aa hk0 ag ⊢;refine (HV.out _ (hA.below aa)).mono ?_;rintro e Y2 ⟨rfl,ab⟩;have ac:=zAa aa ab aa.size;have k3:=ag.below ab ag.lt;clear ab hk0 ag;obtain ⟨c0,c1⟩:=cQ2 k3;go_wp2_with fail
   refine (HC.out _ (hB.below ac)).mono ?_;rintro e Y3 ⟨rfl,ah⟩;have ai:=zAa ac ah ac.size;clear ah k3 c0 c1 ac;go_wp2_with fail
   go_ret;exact ⟨by rw [q1];simp,ai⟩
theorem zGK {A:Option Addr} {n c:Nat} {F:List Fg} {re lo K:Int} {B:Option Addr} {m d:Nat} {L:List Lt} {b:Bool} (h:zBG F re lo K L=b) (w:World) (hA:Fgs w A n F) (hc:n≤c) (hB:Lets w B m L) :
  Calls Tryz.prog 83 #[frV A n c re lo,.agg #[D J K,H B m d]] w fun e w'=>e=.returned (G b)∧Below w.heap.size w w':=by
 subst h;exact zOA A n c F re lo K B m d L w hA hc hB
set_option maxHeartbeats 3200000 in
theorem zMj (A:Option Addr) (n c:Nat) (F:List Fg) (re lo K:Int) (B:Option Addr) (m d:Nat) (L:List Lt) (w:World) (hA:Fgs w A n F) (hc:n≤c) (hB:Lets w B m L) :
  Calls Tryz.prog 74 #[frV A n c re lo,.agg #[D J K,H B m d]] w fun e w'=>e=.returned (D J (zBr F re lo K L))∧Below w.heap.size w w':=by
 have aa:Below w.heap.size w ((w.alloc (.cells #[H A n c,D J re,D J lo] 24)).alloc (.cells #[D J K,H B m d] 55)):=((Below.refl _ _).alloc (Nat.le_refl _) _).alloc (by simp) _;have hk0:Blk ((w.alloc (.cells #[H A n c,D J re,D J lo] 24)).alloc (.cells #[D J K,H B m d] 55)) w.heap.size 24 #[H A n c,D J re,D J lo]:=(Blk.new w _ _).alloc _;have ag:Blk ((w.alloc (.cells #[H A n c,D J re,D J lo] 24)).alloc (.cells #[D J K,H B m d] 55)) (w.heap.size+1) 55 #[D J K,H B m d]:=heap_alloc2_new w _ _;obtain ⟨v,hv⟩:∃v,frB F re lo=v:=⟨_,rfl⟩
 obtain ⟨ZT,hE⟩:∃ZT,zAC K L=ZT:=⟨_,rfl⟩
 obtain ⟨p,hp⟩:∃p,zBG F re lo K L=p:=⟨_,rfl⟩
 have HV:=qH (fun wx (hx:Fgs wx A n F)=>zFo hv A n c wx hx hc);have HC:=qH (fun wx (hx:Lets wx B m L)=>zNo (c:=d) hE wx hx);have HP:=qH (fun wx (hx:Fgs wx A n F) (hy:Lets wx B m L)=>zGK (d:=d) hp wx hx hc hy);have HR:=qH (show zBr F re lo K L=if v=E then 2 else if ZT≠0 then ZT else if p then 0 else 2 by unfold zBr;rw [hv,hE,hp]);clear hv hE hp;go_enter Tryz.func74,Tryz.ntmps74;go_wp2_with fail
 generalize ((w.alloc (.cells #[H A n c,D J re,D J lo] 24)).alloc (.cells #[D J K,H B m d] 55))=Y at aa hk0 ag ⊢;refine (HV.out _ (hA.below aa)).mono ?_;rintro e Y2 ⟨rfl,ab⟩;have ac:=zAa aa ab aa.size;have k2:=hk0.below ab hk0.lt;have k3:=ag.below ab ag.lt;clear ab hk0 ag aa
 cases v with
 | false =>
  have fz:=qH (HR.out.trans (if_pos rfl));clear HR;go_wp2_with fail
  go_ret;exact ⟨zKn fz.out.symm,ac⟩
 | true =>
  obtain ⟨c0,c1⟩:=cQ2 k3;go_wp2_with fail
  refine (HC.out _ (hB.below ac)).mono ?_;rintro e Y3 ⟨rfl,ah⟩;have ai:=zAa ac ah ac.size;have k4:=k2.below ah k2.lt;have k5:=k3.below ah k3.lt;clear ah k2 k3 c0 c1 ac;by_cases h0:ZT=0
  ·subst h0;obtain ⟨c0,c1⟩:=cQ2 k5;obtain ⟨c2,c3,c4⟩:=cQ3 k4;go_wp2_with fail
   refine (HP.out _ (hA.below ai) (hB.below ai)).mono ?_;rintro e Y4 ⟨rfl,ao⟩;have be:=zAa ai ao ai.size;clear ai ao k4 k5 c0 c1 c2 c3 c4
   cases p with
   | false =>
    have fz:=qH (show zBr F re lo K L=2 by rw [HR.out];simp);clear HR;go_wp2_with fail
    go_ret;exact ⟨zKn fz.out.symm,be⟩
   | true =>
    have fz:=qH (show zBr F re lo K L=0 by rw [HR.out];simp);clear HR;go_wp2_with fail
    go_ret;exact ⟨zKn fz.out.symm,be⟩
  ·have q1:(ZT != 0)=Q:=by simpa using h0
   have fz:=qH (show zBr F re lo K L=ZT by rw [HR.out,if_neg (by simp),if_pos h0]);clear h0 HR;go_wp2_with fail
   go_ret;exact ⟨zKn fz.out.symm,ai⟩
theorem zEZ {F:List Fg} {re lo K:Int} {L:List Lt} (h:zBr F re lo K L=0):zBG F re lo K L=Q∧frOk F re lo∧zAC K L=0∧K=(F.length:Int)∧zCQ L=Q:=by
 have hp:zBG F re lo K L=Q:=by
  unfold zBr at h;split at h
  ·omega
  ·split at h
   ·rename_i h1 h2;exact absurd h h2
   ·split at h
    ·rename_i h3;exact h3
    ·omega
 have hq:=hp;unfold zBG at hq;simp only [Bool.and_eq_true,beq_iff_eq] at hq;exact ⟨hp,zCz.1 hq.1.1.1,hq.1.1.2,hq.1.2,hq.2⟩
end Go.Proofs.YtlmdfmnbcndhoaaGreatDoor
namespace Go.Proofs.YtlmdfmnbcndhoaaGreatDoor
open Go.RowKit
structure Lps (K:Nat) (L:List Lt):Prop where
 len:L.length≤400
 k40:K≤40
 gate:∀i,i < L.length→isP (la L i)=Q→0≤(la L i).gate∧(la L i).gate≤K
 arcs:zXf L
def zIR (w:World) (K:Nat) (L:List Lt) (e:Ending) (w':World):Prop :=
 ∃g,e=.returned (H (Z ⟨g,0,U⟩) (K+2) (K+2))∧OwnI w' w.heap.size g (K+2) (zBX K L L.length)∧Below w.heap.size w w'
theorem zMk {v:Nat} (h:v≤100000):IntKind.i64.wrap ((v:Int)+1)=(v:Int)+1:=IntWalk.i64_in _ (by omega)
set_option maxHeartbeats 6400000 in
set_option maxRecDepth 100000 in
theorem zMl (K:Nat) (A:Option Addr) (n c:Nat) (L:List Lt) (w:World) (hA:Lets w A n L) (hL:Lps K L) :
  Calls Tryz.prog 123 #[.agg #[D J (K:Int),H A n c]] w (zIR w K L):=by
 have aD:L.length=n:=hA.len;have hn:n≤400:=by have:=hL.len;omega
 have hK4:=hL.k40;have aa:=(Below.refl w.heap.size w).alloc (Nat.le_refl _) (.cells #[D J (K:Int),H A n c] 55);have hk0:Blk (w.alloc (.cells #[D J (K:Int),H A n c] 55)) w.heap.size 55 #[D J (K:Int),H A n c]:=Blk.new _ _ _;have c0:(w.alloc (.cells #[D J (K:Int),H A n c] 55)).cell? ⟨w.heap.size,0,U⟩=Z (D J (K:Int)):=(hk0.cell 0).trans rfl;have HN:=qH aD;have HL:=qH hL;have HA:=qH hA;have hlw:w.heap.size < (w.alloc (.cells #[D J (K:Int),H A n c] 55)).heap.size:=hk0.lt;have w1:wrap64 ((K:Int)+2)=((K+2:Nat):Int):=by unfold wrap64;omega
 clear aD hL hA;go_enter Tryz.func123,Tryz.ntmps123;go_upto_region 1 with fail
 generalize w.alloc (.cells #[D J (K:Int),H A n c] 55)=Y at aa hk0 c0 hlw ⊢;go_upto_region 2 with (refine zIB rfl _ _ rfl (K+2) _ rfl rfl (by first | rfl | exact w1 | (simp;done) | omega) (by omega) (base:=Y.heap.size) (Nat.le_refl _) ?_;intro Y2 eG ab iY)
 have nD:OwnI Y2 Y.heap.size Y.heap.size (K+2) (zBX K L 0):=by rw [zOu];exact eG
 have hk2:=hk0.below ab hlw;have hby:=zAa aa ab aa.size;have c1:Y2.cell? ⟨w.heap.size,1,U⟩=Z (H A n c):=(hk2.cell 1).trans rfl;have hwy:w.heap.size < Y.heap.size:=hlw;clear eG iY c0 hk0 hlw ab;generalize Y.heap.size=g at nD hwy ⊢;have hgl:g < Y2.heap.size:=nD.lt;have ab:Below g Y2 Y2:=Below.refl _ _;go_wp2_with fail
 clear c1;go_loopw [4,14] (fun v4 v14 wv=>∃(i:Nat) (X:World),X=wv∧i≤n∧v14=D J i∧v4=G (!dwn L i)∧OwnI X g g (K+2) (zBX K L i)∧Below g Y2 X) (fun _ v14 _=>n-(intOf v14).toNat)
 case atStart=>exact ⟨0,_,rfl,by omega,rfl,rfl,nD,ab⟩
 case round =>
  obtain ⟨i,X,hX,hi,rfl,rfl,hO,hb⟩:=hrel;subst hX;clear nD;have hkx:=hk2.below hb hwy;have dQ:Lets X A n L:=HA.out.below ((hby.trans (hb.mono (by omega))));have DC:g < X.heap.size:=hO.lt;by_cases hlt:i < n
  ·have j0:(0:Int)≤(i:Int):=by omega
   have j1:(i:Int) < (n:Int):=by omega
   obtain ⟨ga,o,rfl,hgl,hat,hok⟩:=dQ.at_ hlt;obtain ⟨x0,x1,x2,x3,x4,x5⟩:=hat;have hbl:=(Below.refl X.heap.size X).alloc (Nat.le_refl _) (.cells #[D J (la L i).kind,D J (la L i).gate,D J (la L i).rank,D J (la L i).id,D J (la L i).sign,G (la L i).over] 76);have nA:Blk (X.alloc (.cells #[D J (la L i).kind,D J (la L i).gate,D J (la L i).rank,D J (la L i).id,D J (la L i).sign,G (la L i).over] 76)) X.heap.size 76 #[D J (la L i).kind,D J (la L i).gate,D J (la L i).rank,D J (la L i).id,D J (la L i).sign,G (la L i).over]:=Blk.new _ _ _;have lx:=hO.below hbl DC;have ag:=hkx.below hbl hkx.lt;have fc:=dQ.below hbl;have aj:=hb.trans (hbl.mono (Nat.le_of_lt DC));obtain ⟨d,hd⟩:∃d,dwn L i=d:=⟨_,rfl⟩
   rw [hd];by_cases hk:(la L i).kind=1
   ·have q1:((la L i).kind != 1)=E:=by simpa using hk
    have hp:=zGc hk;have hdn:dwn L (i+1) = !d:=by rw [zPe hp,hd]
    have ju:=qH hdn
    cases d with
    | false =>
     have HS:=qH (show zBX K L (i+1)=zBX K L i from zIN K L (by rw [hd,Bool.and_false]));clear hO hkx dQ ag fc nA hbl hk hp hd hdn;go_wp2_with fail
     go_roundw
     case rel=>exact ⟨i+1,_,rfl,by omega,by go_num,by rw [ju.out];rfl,by rw [HS.out];exact lx,aj⟩
     case measure=>simp [intOf];omega
    | true =>
     have hil:i < L.length:=by rw [HN.out];exact hlt
     obtain ⟨bB,eP⟩:=HL.out.arcs i hil hp hd;have hi1:i+1 < n:=by rw [←HN.out];exact bB
     have qE:=HL.out.gate i hil hp;have bT:=HL.out.gate (i+1) bB eP;obtain ⟨gx,hgx⟩:∃m:Nat,(la L i).gate=(m:Int):=⟨(la L i).gate.toNat,by omega⟩
     obtain ⟨gy,hgy⟩:∃m:Nat,(la L (i+1)).gate=(m:Int):=⟨(la L (i+1)).gate.toNat,by omega⟩
     obtain ⟨m,hm,da,rH⟩:∃m:Nat,max (gx:Int) (gy:Int)=(m:Int)∧m < K+2∧zUO L i=(m:Int):=by
      by_cases h:gx≤gy
      ·exact ⟨gy,by omega,by omega,by unfold zUO;rw [hgx,hgy,if_pos (by omega)]⟩
      ·exact ⟨gx,by omega,by omega,by unfold zUO;rw [hgx,hgy,if_neg (by omega)]⟩
     have DM:(isP (la L i)&&dwn L i)=Q:=by rw [hp,hd];rfl
     have c6:(X.alloc (.cells #[D J (la L i).kind,D J (la L i).gate,D J (la L i).rank,D J (la L i).id,D J (la L i).sign,G (la L i).over] 76)).cell? ⟨X.heap.size,1,U⟩=Z (D J (gx:Int)):=by rw [←hgx];exact (nA.cell 1).trans rfl
     have c1:(X.alloc (.cells #[D J (la L i).kind,D J (la L i).gate,D J (la L i).rank,D J (la L i).id,D J (la L i).sign,G (la L i).over] 76)).cell? ⟨w.heap.size,1,U⟩=Z (H (Z ⟨ga,o,U⟩) n c):=(ag.cell 1).trans rfl;have y1:(X.alloc (.cells #[D J (la L i).kind,D J (la L i).gate,D J (la L i).rank,D J (la L i).id,D J (la L i).sign,G (la L i).over] 76)).cell? ⟨ga,o+(i+1)*6+1,U⟩=Z (D J (gy:Int)):=by rw [←hgy];exact (fc.also hi1).1.gate
     have e1:=lx.cell (zFE K L i da);have z1:=lx.frozen m;have b1:=zQn L (m:Int) i;have r1:=lx.stored m ((lpC L (m:Int) i:Int)+1);rw [zQo K L DM rH] at r1;obtain ⟨v1,mB⟩:∃v,lpC L (m:Int) i=v:=⟨_,rfl⟩
     rw [mB] at e1 b1 r1;have s1:=aj.setCell (p:=⟨g,m,U⟩) (Nat.le_refl _) (D J ((v1:Int)+1));have p1:(0:Int)≤(i:Int)+1:=by omega
     have p2:(i:Int)+1 < (n:Int):=by omega
     have p3:IntKind.i64.wrap ((i:Int)+1)=(i:Int)+1:=zMk (by omega);have p4:(0:Int)≤(m:Int):=by omega
     have p7:(m:Int) < (K:Int)+2:=by omega
     have w7:IntKind.i64.wrap ((v1:Int)+1)=(v1:Int)+1:=zMk (by omega);have R1:=qH r1.drew;have S1:=qH s1.drew;clear hO hkx dQ ag fc hk hp hd hdn hgx hgy mB r1 s1 qE bT nA hbl lx aj eP DM rH;go_upto_region 9 with fail
     clear x0 x1 x2 x3 x4 x5;generalize X.alloc (.cells #[D J (la L i).kind,D J (la L i).gate,D J (la L i).rank,D J (la L i).id,D J (la L i).sign,G (la L i).over] 76)=X6 at c6 c1 y1 e1 z1 R1 S1 ⊢;generalize X.heap.size=b6 at c6 ⊢;go_region
     go_wp2_with fail
     go_roundw
     case rel=>exact ⟨i+1,_,rfl,by omega,by go_num,by rw [ju.out];rfl,R1.out,S1.out⟩
     case measure=>simp [intOf];omega
   ·have q1:((la L i).kind != 1)=Q:=by simpa using hk
    have hp:=zGQ hk;have HS:=qH (show zBX K L (i+1)=zBX K L i from zIN K L (by rw [hp,Bool.false_and]));have ju:=qH (show dwn L (i+1)=d by rw [zVO hp,hd]);clear hO hkx dQ ag fc nA hbl hk hp hd;go_wp2_with fail
    go_roundw
    case rel=>exact ⟨i+1,_,rfl,by omega,by go_num,by rw [ju.out],by rw [HS.out];exact lx,aj⟩
    case measure=>simp [intOf];omega
  ·have j1:¬(i:Int) < (n:Int):=by omega
   have hin:i=n:=by omega
   have hOe:OwnI X w.heap.size g (K+2) (zBX K L L.length):=by rw [HN.out,←hin];exact ⟨hO.blk,by omega,hO.len⟩
   have hbw:=hby.trans (hb.mono (by omega));clear hin hlt hO hkx dQ hb;go_wp2_with fail
   go_ret;exact ⟨g,rfl,hOe,hbw⟩
end Go.Proofs.YtlmdfmnbcndhoaaGreatDoor
namespace Go.Proofs.YtlmdfmnbcndhoaaGreatDoor
open Go.RowKit
theorem zXK (S:ByteArray) (w:World):(Instr.buildSlice 112 1 #[(0,W S)]).run Tryz.prog w=.ok (H (Z ⟨w.heap.size,0,U⟩) 1 1) (w.alloc (.cells #[W S] 9)):=by
 obtain ⟨i0,hi,aQ,az,bi⟩:=info_parts zJo;refine run_buildSlice w _ _ 1 _ _ i0 _ Tryz.underlying112 hi aQ (by rw [az];omega) (by rw [az];omega) ?_;rw [az]
 kernel_rfl
theorem zWC {w:World} {ops:Array Oper} {o:Oper} {a:Act} {K:Act→World→Prop} {Q':Exit→Act→World→Prop} {ZT:Prop} (hgd:o.guard=U) (s x:Operand)
  (ho:o.op=.call { callee:=.builtin .append,args:=#[s,x],argTypes:=#[112,112] })
  {base:Nat} {A:Option Addr} {n c:Nat} {Ss:List (List UInt8)} (S:List UInt8) (hs:a.eval s=H A n c) (hx:a.eval x=H (Z ⟨w.heap.size,0,U⟩) 1 1)
  (hst:Row w base 1 A n c (Ss.map zLN)) (N:Nat) (hN:n+1=N) (hn:N≤1000000) (hbase:base≤w.heap.size)
  (h:∀A' c' w',Row w' base 1 A' N c' ((Ss++[S]).map zLN)→Below base w w'→w.grownBy w' (blk A)→K (a.put o.dst (H A' N c')) w') :
  if Region.wanted o (yielded ops a.tmps)=Q then Oper.wp Tryz.prog o a (w.alloc (.cells #[W (bA S)] 9)) K Q' else ZT:=by
 obtain ⟨i0,hi,aQ,az,bi⟩:=info_parts zJo;have hbl:=(Below.refl w.heap.size w).alloc (Nat.le_refl _) (.cells #[W (bA S)] 9);have bE:=hst.below hbl
 refine zTU hgd s x 112 ho 9 i0 _ 1 16 Tryz.underlying112 hi aQ az bi rfl (by decide) bE (Src.new (m:=1) (cs:=[W (bA S)]) rfl)
  (by intro u hu;simp at hu;subst hu;rfl) hs hx N hN (by unfold maxLen;omega) (by omega) (by simp;omega) ?_
 intro A' c' w' h1 h2 _ _;refine h A' c' w' (by rw [List.map_append];exact h1) ?_ (zAb (zDM hbl _) h2);exact ((Below.refl _ _).alloc hbase _).trans (bE.belowOf h2 (by simp;omega))
theorem zQA {w:World} {g:Nat} {t:TypeId} {v0 v1 v2 v3 v4 v5:Value} (h:Blk w g t #[v0,v1,v2,v3,v4,v5]) (u0 u1 u2 u3 u4 u5:Value) :
  Blk ((((((w.setCell ⟨g,0,U⟩ u0).setCell ⟨g,1,U⟩ u1).setCell ⟨g,2,U⟩ u2).setCell ⟨g,3,U⟩ u3).setCell ⟨g,4,U⟩ u4).setCell ⟨g,5,U⟩ u5) g t #[u0,u1,u2,u3,u4,u5]:=by
 have h1:=(((((h.set_ 0 u0).set_ 1 u1).set_ 2 u2).set_ 3 u3).set_ 4 u4).set_ 5 u5;simpa using h1
theorem zQB {a w:World} {g B:Nat} (h:Below B a w) (hB:B≤g) (u0 u1 u2 u3 u4 u5:Value) :
  Below B a ((((((w.setCell ⟨g,0,U⟩ u0).setCell ⟨g,1,U⟩ u1).setCell ⟨g,2,U⟩ u2).setCell ⟨g,3,U⟩ u3).setCell ⟨g,4,U⟩ u4).setCell ⟨g,5,U⟩ u5) :=
 (((((h.setCell (p:=⟨g,0,U⟩) hB u0).setCell (p:=⟨g,1,U⟩) hB u1).setCell (p:=⟨g,2,U⟩) hB u2).setCell (p:=⟨g,3,U⟩) hB u3).setCell (p:=⟨g,4,U⟩) hB u4).setCell (p:=⟨g,5,U⟩) hB u5
structure Pos (F:List Fg) (re lo:Int) (L:List Lt):Prop where
 lps:Lps F.length L
 fr:frOk F re lo
 kinds:∀i,i < L.length→isP (la L i)=Q∨isC (la L i)=Q
 left:∀i,i < L.length→isP (la L i)=Q→dwn L i=Q→0≤(zBL L i).gate∧(zBL L i).gate < F.length
 rank:∀i,i < L.length→isP (la L i)=Q→1≤(la L i).rank∧(la L i).rank≤400
 id:∀i,i < L.length→isC (la L i)=Q→1≤(la L i).id∧(la L i).id≤400
theorem zGL {F:List Fg} {re lo K:Int} {L:List Lt} (h:zBG F re lo K L=Q):Pos F re lo L∧K=(F.length:Int):=by
 unfold zBG at h;simp only [Bool.and_eq_true,beq_iff_eq] at h;obtain ⟨⟨⟨h1,h2⟩,h3⟩,h4⟩:=h;have ht:=zCq h2;obtain ⟨c1,c2,c3,c4⟩:=zEY h2;subst h3;rcases Nat.eq_zero_or_pos L.length with h0 | h0
 ·exact ⟨⟨⟨ht.len,by omega,fun i hi=>by omega,fun i hi=>by omega⟩,zCz.1 h1,fun i hi=>by omega,fun i hi=>by omega,fun i hi=>by omega,fun i hi=>by omega⟩,rfl⟩
 have hv:zAQ (F.length:Int) L=Q:=by rcases c4 with h | h;· omega
                                    ·exact h
 have g:=zDo h0 hv;have hpo:∀i,i < L.length→poB L i=Q:=zAv.1 h4
 have key:∀i,i < L.length→isP (la L i)=Q→dwn L i=Q→i+1 < L.length∧isP (la L (i+1))=Q∧((la L (i+1)).gate-(la L i).gate=1∨(la L i).gate-(la L (i+1)).gate=1):=by
  intro i hi hp hd;have hlt:i+1 < L.length:=by
   rcases Nat.lt_or_ge (i+1) L.length with h | h
   ·exact h
   ·have e:i+1=L.length:=by omega
    have ip:dwn L (i+1)=E:=by rw [zPe hp,hd];rfl
    rw [e] at ip;unfold dwn at ip;have:=g.even;simp [this] at ip
  have:=hpo i hi;unfold poB neB nxL at this;rw [hp,hd,Nat.mod_eq_of_lt hlt] at this;simp only [Bool.and_self,Bool.not_true,Bool.false_or,Bool.and_eq_true,Bool.or_eq_true,beq_iff_eq] at this;exact ⟨hlt,this.1,this.2⟩
 refine ⟨⟨⟨ht.len,by omega,fun i hi hp=>⟨(ht.pass i hi hp).1,(ht.pass i hi hp).2.1⟩,fun i hi hp hd=>⟨(key i hi hp hd).1,(key i hi hp hd).2.1⟩⟩,zCz.1 h1,g.kinds,fun i hi hp hd=>?_,fun i hi hp=>⟨(ht.pass i hi hp).2.2.1,(ht.pass i hi hp).2.2.2⟩,fun i hi hc=>?_⟩,rfl⟩
 ·obtain ⟨k1,k2,k3⟩:=key i hi hp hd;have g1:=ht.pass i hi hp;have g2:=ht.pass (i+1) k1 k2;unfold zBL;split<;>omega
 ·have h5:=g.cross i hi;have:=(zBn.1 h5 hc).1;have:=zJd L L.length;have:=ht.len;omega
theorem zQC {F:List Fg} {re lo:Int} {L:List Lt} (h:Pos F re lo L) {i:Nat} (hi:i < L.length):∀x∈zGx F L i,x.length≤100:=by
 intro x hx;unfold zGx at hx;by_cases hc:isC (la L i)=Q
 ·rw [if_pos hc] at hx;rw [List.mem_singleton.1 hx];have hid:=h.id i hi hc;have:=zBb (x:=(la L i).id) ⟨by omega,by omega⟩;unfold zUP;simp only [List.length_append,List.length_singleton];omega
 ·rw [if_neg hc] at hx;by_cases hd:dwn L i=Q
  ·rw [if_pos hd] at hx;rw [List.mem_singleton.1 hx];have hp:=(h.kinds i hi).resolve_right hc;have hg:=h.left i hi hp hd;have hn:=zBJ h.fr (f:=(zBL L i).gate+1) (by omega) (by omega);have hr:1≤(zBL L i).rank∧(zBL L i).rank≤400:=by
    obtain ⟨k1,k2⟩:=h.lps.arcs i hi hp hd;unfold zBL;split
    ·exact h.rank (i+1) k1 k2
    ·exact h.rank i hi hp
   have hl:=zQn L (zBL L i).gate L.length;have hlen:=h.lps.len;have:=zBb (x:=(zBL L i).rank-(lpC L (zBL L i).gate L.length:Int)) ⟨by omega,by omega⟩;unfold zKP;simp only [List.length_append,List.length_singleton];omega
  ·rw [if_neg hd] at hx;simp at hx
theorem zQD (F:List Fg) (L:List Lt) (i:Nat):(zGx F L i).length≤1:=by
 unfold zGx;split
 ·simp
 ·split<;>simp
theorem zQE (F:List Fg) (L:List Lt) (m:Nat):(zDH F L m).length≤m:=by
 induction m with
 | zero=>simp [zDH]
 | succ m ih=>rw [zDj,List.length_append];have:=zQD F L m;omega
theorem zMm {F:List Fg} {re lo:Int} {L:List Lt} (h:Pos F re lo L) {m:Nat} (hm:m≤L.length):∀x∈zDH F L m,x.length≤100:=by
 intro x hx;unfold zDH at hx;obtain ⟨i,hi,hx⟩:=List.mem_flatMap.1 hx;exact zQC h (by have:=List.mem_range.1 hi;omega) x hx
theorem zSv {K:Nat} {A:Option Addr} {n c:Nat} {L:List Lt} (w:World) (hA:Lets w A n L) (hL:Lps K L):Calls Tryz.prog 123 #[.agg #[D J (K:Int),H A n c]] w (zIR w K L):=zMl K A n c L w hA hL
theorem zQF {x:Int} {S:List UInt8} (h:Lib.itoa x=S) (hx:I64 x) (w:World) (ht:Tabs w):Calls Tryz.prog 124 #[D J x] w fun e w'=>e=.returned (W (bA S))∧Below w.heap.size w w':=by
 subst h;exact zJj x hx w ht
end Go.Proofs.YtlmdfmnbcndhoaaGreatDoor
