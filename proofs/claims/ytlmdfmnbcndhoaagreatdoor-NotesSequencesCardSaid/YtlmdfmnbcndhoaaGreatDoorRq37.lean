/-
  Lemmas, part 37. Conditions: each theorem's own.
-/
import Derived.Test.YtlmdfmnbcndhoaaGreatDoorRq36
open Go.Value renaming bool→G,int→D,slice→H,string→W
open Go.IntKind renaming i64→J
open Option renaming none→U,some→Z
open Bool renaming false→E,true→Q
namespace Go.Proofs.YtlmdfmnbcndhoaaGreatDoor
open Go.RowKit
theorem zNq (S:List UInt8):0≤(zAu S).1∧(zAu S).1≤999999999:=by
 cases h:(zAu S).2 with
 | true =>
  obtain ⟨_,h2,h3⟩:=zDt (S:=S) (n:=(zAu S).1) (by rw [←h]);omega
 | false =>
  have:(zAu S).1=0:=by
   unfold zAu at h ⊢;split
   ·rename_i hc;rw [if_pos hc] at h;simp at h
   ·rfl
  omega
theorem zVc {L:List Fg} (hL:L.length≤17592186043904) (x:List UInt8):BiOk (zNj L x):=by
 have h1:=zNq (zHj x).2.1;have h2:=zNq x.dropLast;have h3:∀S,(zEy L S:Int)≤17592186043904:=fun S=>by
  unfold zEy
  cases zIH S with
  | none=>simp
  | some f=>have:=zEL (f:=f) (L:=L);simp only;omega
 have h4:=h3 (zHj x).1;unfold zNj;split
 ·refine ⟨⟨?_,?_⟩,⟨?_,?_⟩⟩<;>simp only<;>(try split)<;>omega
 ·refine ⟨⟨?_,?_⟩,⟨?_,?_⟩⟩<;>simp only<;>omega
theorem zSA {S:List UInt8} {v:Int} {ok:Bool} (h1:(zAu S).1=v) (h2:(zAu S).2=ok) (w:World) :
  Calls Tryz.prog 129 #[W (bA S)] w fun e w'=>e=.returned (.tuple #[D J v,G ok])∧Below w.heap.size w w':=by
 subst h1;subst h2;exact zHR S w
def BitW (X:World) (rb:Nat) (F:Fm) (T:List (List UInt8)) (bad lost:Bool) (base:Nat) (A:Option Addr) (i c:Nat) (l:List Bi) (a8:Nat) (f n:Int) (b:Bool) (Y:World):Prop :=
 RX X rb F ⟨T,bad,lost⟩∧Row X base 3 A i c (l.flatMap zTx)∧Blk X a8 174 #[D J f,D J n,G b]∧Y.grownBy X (Z rb)
section
variable {X V:World} {rb:Nat} {F:Fm} {T:List (List UInt8)} {bad lost:Bool} {base:Nat} {A:Option Addr} {i c:Nat} {l:List Bi} {a8:Nat} {f n:Int} {b:Bool} {Y:World}
theorem BitW.below (h:BitW X rb F T bad lost base A i c l a8 f n b Y) (hb:Below X.heap.size X V):BitW V rb F T bad lost base A i c l a8 f n b Y :=
 ⟨h.1.below hb,h.2.1.below hb,h.2.2.1.below hb h.2.2.1.lt,zAb h.2.2.2 (zAt hb)⟩
theorem BitW.marked (h:BitW X rb F T bad lost base A i c l a8 f n b Y) (hb:rb < base) (h8:rb < a8) (q m:Bool) (hq:q=(bad||m)):BitW (X.setCell ⟨rb,4,U⟩ (G q)) rb F T (bad||m) lost base A i c l a8 f n b Y:=by
 obtain ⟨h1,h2⟩:=h.1.marked m q hq;exact ⟨h1,h.2.1.overO h2 hb,h.2.2.1.grownO h2 h8,zAb h.2.2.2 h2⟩
theorem BitW.grown {d9 jo:Bool} (h:BitW X rb F T bad lost base A i c l a8 f n b Y) (hb:rb < base) (h8:rb < a8) (hx:RX V rb F ⟨T,jo,d9⟩) (hg:X.grownBy V (Z rb)):BitW V rb F T jo d9 base A i c l a8 f n b Y :=
 ⟨hx,h.2.1.overO hg hb,h.2.2.1.grownO hg h8,zAb h.2.2.2 hg⟩
theorem BitW.set0 (h:BitW X rb F T bad lost base A i c l a8 f n b Y) (h8:rb < a8) (hY:Y.heap.size≤a8) (hA:∀k,blk A=Z k→k≠a8) (u:Int):BitW (X.setCell ⟨a8,0,U⟩ (D J u)) rb F T bad lost base A i c l a8 u n b Y :=
 ⟨h.1.over ((Below.refl _ _).setCell (p:=⟨a8,0,U⟩) h8 _),h.2.1.farSet 0 _ hA,h.2.2.1.set_ 0 _,zAd h.2.2.2 ((Below.refl _ _).setCell (p:=⟨a8,0,U⟩) hY _)⟩
theorem BitW.set1 (h:BitW X rb F T bad lost base A i c l a8 f n b Y) (h8:rb < a8) (hY:Y.heap.size≤a8) (hA:∀k,blk A=Z k→k≠a8) (u:Int):BitW (X.setCell ⟨a8,1,U⟩ (D J u)) rb F T bad lost base A i c l a8 f u b Y :=
 ⟨h.1.over ((Below.refl _ _).setCell (p:=⟨a8,1,U⟩) h8 _),h.2.1.farSet 1 _ hA,h.2.2.1.set_ 1 _,zAd h.2.2.2 ((Below.refl _ _).setCell (p:=⟨a8,1,U⟩) hY _)⟩
theorem BitW.set2 (h:BitW X rb F T bad lost base A i c l a8 f n b Y) (h8:rb < a8) (hY:Y.heap.size≤a8) (hA:∀k,blk A=Z k→k≠a8) (u:Bool):BitW (X.setCell ⟨a8,2,U⟩ (G u)) rb F T bad lost base A i c l a8 f n u Y :=
 ⟨h.1.over ((Below.refl _ _).setCell (p:=⟨a8,2,U⟩) h8 _),h.2.1.farSet 2 _ hA,h.2.2.1.set_ 2 _,zAd h.2.2.2 ((Below.refl _ _).setCell (p:=⟨a8,2,U⟩) hY _)⟩
theorem BitW.c0 (h:BitW X rb F T bad lost base A i c l a8 f n b Y):X.cell? ⟨a8,0,U⟩=Z (D J f):=(h.2.2.1.cell 0).trans rfl
theorem BitW.c1 (h:BitW X rb F T bad lost base A i c l a8 f n b Y):X.cell? ⟨a8,1,U⟩=Z (D J n):=(h.2.2.1.cell 1).trans rfl
theorem BitW.c2 (h:BitW X rb F T bad lost base A i c l a8 f n b Y):X.cell? ⟨a8,2,U⟩=Z (G b):=(h.2.2.1.cell 2).trans rfl
theorem BitW.z (h:BitW X rb F T bad lost base A i c l a8 f n b Y) (k:Nat):X.frozen? ⟨a8,k,U⟩=E:=h.2.2.1.frozen k
theorem BitW.bad4 (h:BitW X rb F T bad lost base A i c l a8 f n b Y):X.cell? ⟨rb,4,U⟩=Z (G bad)∧X.frozen? ⟨rb,4,U⟩=E:=h.1.bad4
end
def zKW (w:World) (rb:Nat) (F:Fm) (T:List (List UInt8)) (bad lost:Bool) (Ws:List (List UInt8)) (e:Ending) (w':World):Prop :=
 ∃A c,e=.returned (H A Ws.length c)∧Row w' w.heap.size 3 A Ws.length c ((Ws.map (zNj F.L)).flatMap zTx)∧RX w' rb F ⟨T,bad||zEW Ws,lost||zGt F.L Ws⟩∧w.grownBy w' (Z rb)
set_option maxHeartbeats 12800000 in
set_option maxRecDepth 100000 in
theorem zMp (rb:Nat) (F:Fm) (T:List (List UInt8)) (bad0 lost0:Bool) (S:List UInt8) (w:World) (h:RX w rb F ⟨T,bad0,lost0⟩) (hS:S.length≤20000) (hT:∀X,w.grownBy X (Z rb)→Tabs X) :
  Calls Tryz.prog 79 #[.pointer (Z ⟨rb,0,U⟩),W (bA S)] w (zKW w rb F T bad0 lost0 (zBx 32 S)):=by
 obtain ⟨ws,hws⟩:∃ZR,zBx 32 S=ZR:=⟨_,rfl⟩
 rw [hws];obtain ⟨n,hn⟩:∃n,ws.length=n:=⟨_,rfl⟩
 have hn9:n≤20001:=by rw [←hn,←hws];have:=zCv S;omega
 have hpl:∀p∈ws,p.length≤100000:=fun p hp=>by rw [←hws] at hp;exact Nat.le_trans (zCu 32 S p hp) (by omega)
 have bY:=qH hpl;have HN:=qH hn;have hG:=qH (zHW S (by omega) w (hT w (zBw _ _)));rw [hws,hn] at hG;have HT:=qH hT;have wL:=qH hws;clear hws hn hpl hS hT;go_enter Tryz.func79,Tryz.ntmps79;go_wp2_with fail
 refine hG.out.mono ?_;rintro e Y ⟨rfl,hY⟩;have r9:Below w.heap.size w Y:=by rw [hY];exact (Below.refl _ _).alloc (Nat.le_refl _) _
 have DA:∀(j:Nat) (p:List UInt8),ws[j]? = Z p→Y.cell? ⟨w.heap.size,j,U⟩=Z (W (bA p)):=fun j p hp=>by
  rw [hY,World.cell?_alloc_at _ _ _ _ rfl];simp [hp]
 have hlY:w.heap.size < Y.heap.size:=by rw [hY];simp
 have yD:=qH DA;have rB:=h.below r9;have hrw:rb < w.heap.size:=h.lt;have Fe:=qH (show w.grownBy Y (Z rb) from zAt r9);clear hY DA hG h;go_wp2_with fail
 go_loopw [5,19] (fun v5 v19 wv=>∃(i:Nat) (V:World) (A':Option Addr) (c':Nat) (l:List Bi) (bad lost:Bool),V=wv∧i≤n∧v19=D J i∧v5=H A' i c'∧RX V rb F ⟨T,bad,lost⟩∧Row V Y.heap.size 3 A' i c' (l.flatMap zTx)∧Y.grownBy V (Z rb)∧Hid (l=(ws.take i).map (zNj F.L)∧bad=(bad0||zEW (ws.take i))∧lost=(lost0||zGt F.L (ws.take i)))) (fun _ v19 _=>n-(intOf v19).toNat)
 case atStart=>exact ⟨0,_,U,0,[],bad0,lost0,rfl,by omega,rfl,rfl,rB,Row.none_ _ _ _,zBw _ _,qH ⟨rfl,by simp [zEW,zSh],by simp [zGt]⟩⟩
 case round =>
  clear rB;obtain ⟨i,V,A',c',l,bad,lost,hV,hi,rfl,rfl,hr,hR,hg,HI⟩:=hrel;subst hV;by_cases hlt:i < n
  ·have j0:(0:Int)≤(i:Int):=by omega
   have j1:(i:Int) < (n:Int):=by omega
   obtain ⟨x,hx⟩:∃p,ws[i]? = Z p:=⟨ws[i]'(by rw [HN.out];exact hlt),List.getElem?_eq_getElem _⟩
   have hxl:=bY.out x (List.mem_of_getElem? hx);have hc:V.cell? ⟨w.heap.size,i,U⟩=Z (W (bA x)):=by
    rw [World.cell?_of_block (w:=Y) (w':=V) (a:=⟨w.heap.size,i,U⟩) (hg.block _ hlY (fun e=>by injection e with e;simp only at e;omega))];exact yD.out i x hx
   have dT:=hg.size;have Dt:=hr.lt;have rB:rb < Y.heap.size:=by omega
   have vX:=fun k hk=>(hR.lt k hk).2
   have hbl:=(Below.refl V.heap.size V).alloc (Nat.le_refl _) (.cells #[D J 0,D J 0,G E] 174)
   have c8:BitW (V.alloc (.cells #[D J 0,D J 0,G E] 174)) rb F T bad lost Y.heap.size A' i c' l V.heap.size 0 0 E Y :=
    ⟨hr.below hbl,hR.below hbl,Blk.new _ _ _,zAb hg (zAt hbl)⟩
   have HX:=qH hx;obtain ⟨em,hem⟩:∃b,x.isEmpty=b:=⟨_,rfl⟩
   have n0:((bA x).toList==[])=em:=by rw [zAo,←hem];cases x<;>rfl
   have Fi:=qH hem;have DV:∀k,blk A'=Z k→k≠V.heap.size:=fun k hk=>Nat.ne_of_lt (vX k hk)
   have uc:=qH DV;have h8:rb < V.heap.size:=Dt;have tz:Y.heap.size≤V.heap.size:=dT;clear hr hR hg hx DV vX hbl hem;go_upto_if 24 with fail
   clear hc;generalize V.alloc (.cells #[D J 0,D J 0,G E] 174)=X at c8 ⊢;generalize V.heap.size=a8 at c8 h8 tz uc ⊢;go_cut [7,9] (fun v7 v9 wv=>v7=W (bA x.dropLast)∧v9=W (bA (zQK x))∧∃X:World,X=wv∧BitW X rb F T bad lost Y.heap.size A' i c' l a8 0 0 E Y)
   case first =>
    rcases List.eq_nil_or_concat x with rfl | ⟨y,c,rfl⟩
    ·have HW:=qH c8;obtain rfl:Q=em:=Fi.out;clear c8 n0;go_wp2_with fail
     go_meet
     case rel=>exact ⟨rfl,rfl,_,rfl,HW.out⟩
    ·obtain ⟨m,hm⟩:∃m,y.length=m:=⟨_,rfl⟩
     rw [List.concat_eq_append] at *;have s1:=fun w=>zSy y c w
     have s2:=fun w=>zSz y c w
     have hsz:(bA (y++[c])).size=m+1:=by rw [zAZ];simp [hm]
     rw [hm] at s1 s2;obtain rfl:E=em:=by rw [←Fi.out];cases y<;>rfl
     have q1:IntKind.i64.wrap (((m+1:Nat):Int)-1)=(m:Int):=by rw [show ((m+1:Nat):Int)-1=(m:Int) by omega];exact IntWalk.i64_in _ (by simp only [List.length_append,List.length_singleton] at hxl;omega)
     have q2:IntKind.i64.wrap ((m:Int)+1-1)=(m:Int):=by rw [show (m:Int)+1-1=(m:Int) by omega];exact IntWalk.i64_in _ (by simp only [List.length_append,List.length_singleton] at hxl;omega)
     have q4:m≤100000:=by simp only [List.length_append,List.length_singleton] at hxl;omega
     have HW:=qH (fun q=>c8.below (zAf (Below.refl X.heap.size X) q));have HD:=qH (show (y++[c]).dropLast=y∧zQK (y++[c])=[c] from ⟨List.dropLast_concat,zQL y c⟩);clear c8 hm;go_wp2_with fail
     go_quiet (fail)
     go_wp2_with fail
     go_meet
     case rel=>exact ⟨by rw [HD.out.1],by rw [HD.out.2],_,rfl,HW.out _⟩
   case rest =>
    clear c8 n0;obtain ⟨rfl,rfl,X1,Ar,dx⟩:=hcut;subst Ar;have hcl:x.dropLast.length≤100000:=by rw [List.length_dropLast];omega
    have hgw:=zAb Fe.out dx.2.2.2;have dY:=qH (zVb x.dropLast hcl X1 (HT.out X1 hgw));obtain ⟨⟨ca,cb,dot⟩,hci⟩:∃y,Lib.cut x.dropLast [46]=y:=⟨_,rfl⟩
    rw [hci] at dY;have yE:=qH (show zHj x=(ca,cb,dot) from hci);have Bc:((bA (zQK x)).toList==[62])=zBZ x 62:=by rw [zAo];exact zJS x 62
    have Bd:((bA (zQK x)).toList==[60])=zBZ x 60:=by rw [zAo];exact zJS x 60
    have sJ:((bA (zQK x)).toList==[111])=zBZ x 111:=by rw [zAo];exact zJS x 111
    have sI:((bA (zQK x)).toList==[117])=zBZ x 117:=by rw [zAo];exact zJS x 117
    obtain ⟨lS,BG⟩:∃b,zBZ x 62=b:=⟨_,rfl⟩
    obtain ⟨rt,BH⟩:∃b,zBZ x 60=b:=⟨_,rfl⟩
    obtain ⟨eh,sM⟩:∃b,zBZ x 111=b:=⟨_,rfl⟩
    obtain ⟨gA,sL⟩:∃b,zBZ x 117=b:=⟨_,rfl⟩
    rw [BG] at Bc;rw [BH] at Bd;rw [sM] at sJ;rw [sL] at sI;have nh:=qH (show zBZ x 62=lS∧zBZ x 60=rt∧zBZ x 111=eh∧zBZ x 117=gA from ⟨BG,BH,sM,sL⟩);generalize bA (zQK x)=en at Bc Bd sJ sI ⊢;clear hci hgw BG BH sM sL hcl hxl;go_wp2_with fail
    refine dY.out.mono ?_;rintro e X2 ⟨rfl,ab⟩;have bw:=dx.below ab;clear dx ab dY;go_upto_if 42 with fail
    obtain ⟨dg,hdg⟩:∃d,(if dot then cb else x.dropLast)=d:=⟨_,rfl⟩
    obtain ⟨fv,hfv⟩:∃f:Int,(if dot then (if zEy F.L ca=0 then -1 else (zEy F.L ca:Int)) else 0)=f:=⟨_,rfl⟩
    obtain ⟨bv,hbv⟩:∃b:Bool,(if dot then lS else eh)=b:=⟨_,rfl⟩
    obtain ⟨bm,hbm⟩:∃b:Bool,(if dot then zKD ca||!(lS||rt) else (!(eh||gA))||decide (i=0))=b:=⟨_,rfl⟩
    obtain ⟨lm,hlm⟩:∃b:Bool,(dot&&zEQ F.L ca)=b:=⟨_,rfl⟩
    have tc:=qH hdg;have ud:=qH hfv;have iy:=qH hbv;have uf:=qH hbm;have tZ:=qH hlm;clear hdg hfv hbv hbm hlm;go_cut [10] (fun v10 wv=>v10=W (bA dg)∧∃X:World,X=wv∧BitW X rb F T (bad||bm) (lost||lm) Y.heap.size A' i c' l a8 fv 0 bv Y)
    case first =>
     cases dot with
     | true =>
      have HF:=qH (fun wx (hx:RX wx rb F ⟨T,bad,lost⟩)=>zCE hx ca);obtain ⟨fx,hfx⟩:∃f,zEy F.L ca=f:=⟨_,rfl⟩
      obtain ⟨fb,hfb⟩:∃f,zKD ca=f:=⟨_,rfl⟩
      obtain ⟨fl,hfl⟩:∃f,zEQ F.L ca=f:=⟨_,rfl⟩
      simp only [RS.fing,hfx,hfb,hfl] at HF;have hE:(if fx=0 then -1 else (fx:Int))=fv∧lS=bv∧(fb||!(lS||rt))=bm∧fl=lm∧cb=dg:=⟨by have:=ud.out;rw [if_pos rfl,hfx] at this;exact this,by have:=iy.out;rwa [if_pos rfl] at this,by have:=uf.out;rw [if_pos rfl,hfb] at this;exact this,by have:=tZ.out;rw [hfl] at this;simpa using this,by have:=tc.out;rwa [if_pos rfl] at this⟩;have HE:=qH hE;clear hfx hfb hfl hE ud iy uf tZ tc;have b0:=bw.c0;have z0:=bw.z 0;go_wp2_with fail
      refine (HF.out X2 bw.1).mono ?_;rintro e X3 ⟨rfl,Dq,db⟩;have bX:=bw.grown rB h8 Dq db;clear bw Dq db HF b0 z0;have b0:=bX.c0;have z0:=bX.z 0;have nB:=bX.set0 h8 tz uc.out (fx:Int);go_upto_region 13 with fail
      clear b0 z0 bX;generalize X3.setCell ⟨a8,0,U⟩ (D J (fx:Int))=X4 at nB ⊢;go_cut [60] (fun _ wv=>∃X:World,X=wv∧BitW X rb F T (bad||bm) (lost||lm) Y.heap.size A' i c' l a8 fx 0 E Y)
      case first =>
       have HZ:=qH (fun (q:Bool) (hq:q=((bad||fb)||!(lS||rt)))=>(show BitW (X4.setCell ⟨rb,4,U⟩ (G q)) rb F T (bad||bm) (lost||lm) Y.heap.size A' i c' l a8 fx 0 E Y by
        have:=nB.marked rB h8 q (!(lS||rt)) hq
        rwa [Bool.or_assoc,HE.out.2.2.1,HE.out.2.2.2.1] at this))
       have b4:=nB.bad4.1;have z4:=nB.bad4.2;obtain ⟨bb,hbb⟩:∃b,(bad||fb)=b:=⟨_,rfl⟩
       rw [hbb] at b4 HZ;clear nB hbb HE
       cases bb<;>cases lS<;>cases rt
       all_goals
        go_wp2_with fail
        go_meet
        case rel=>exact ⟨_,rfl,HZ.out _ rfl⟩
      case rest =>
       clear nB;obtain ⟨X5,oh,mK⟩:=hcut;subst oh;have b2:=mK.c2;have z2:=mK.z 2;have b0:=mK.c0;have z0:=mK.z 0;have qK:=mK.set2 h8 tz uc.out lS;have d0:=qK.c0;have dz0:=qK.z 0;have oH:=qH qK;have yk:=qH (qK.set0 h8 tz uc.out (-1));have qN:=HE.out;clear HE mK qK;by_cases hf0:fx=0
       ·subst hf0;have HE:=qH (show (-1:Int)=fv∧lS=bv∧cb=dg from ⟨by rw [←qN.1];rfl,qN.2.1,qN.2.2.2.2⟩);clear qN;go_wp2_with fail
        go_meet
        case rel=>exact ⟨by rw [HE.out.2.2],_,rfl,by rw [←HE.out.1,←HE.out.2.1];exact yk.out⟩
       ·have HE:=qH (show ((fx:Nat):Int)=fv∧lS=bv∧cb=dg from ⟨by rw [←qN.1,if_neg hf0],qN.2.1,qN.2.2.2.2⟩);have k0:((fx:Int)==0)=E:=by simp;omega
        clear qN hf0;go_wp2_with fail
        go_meet
        case rel=>exact ⟨by rw [HE.out.2.2],_,rfl,by rw [←HE.out.1,←HE.out.2.1];exact oH.out⟩
     | false =>
      have hE:(0:Int)=fv∧eh=bv∧((!(eh||gA))||decide (i=0))=bm∧E=lm∧x.dropLast=dg:=⟨by have:=ud.out;rwa [if_neg (by simp)] at this,by have:=iy.out;rwa [if_neg (by simp)] at this,by have:=uf.out;rwa [if_neg (by simp)] at this,by have:=tZ.out;simpa using this,by have:=tc.out;rwa [if_neg (by simp)] at this⟩;have HE:=qH hE;clear hE ud iy uf tZ tc;go_upto_region 17 with fail
      go_cut [87] (fun _ wv=>∃X:World,X=wv∧BitW X rb F T (bad||bm) (lost||lm) Y.heap.size A' i c' l a8 0 0 E Y)
      case first =>
       have HZ:=qH (fun (q:Bool) (hq:q=(bad||((!(eh||gA))||decide (i=0))))=>(show BitW (X2.setCell ⟨rb,4,U⟩ (G q)) rb F T (bad||bm) (lost||lm) Y.heap.size A' i c' l a8 0 0 E Y by
        have:=bw.marked rB h8 q ((!(eh||gA))||decide (i=0)) hq
        rwa [HE.out.2.2.1,show lost=(lost||lm) by rw [←HE.out.2.2.2.1];simp] at this))
       have b4:=bw.bad4.1;have z4:=bw.bad4.2;clear bw HE;by_cases hi0:i=0
       ·have p0:((i:Int)==0)=Q:=by simp;omega
        rw [decide_eq_true hi0] at HZ;clear hi0
        cases bad<;>cases eh<;>cases gA
        all_goals
         go_wp2_with fail
         go_meet
         case rel=>exact ⟨_,rfl,HZ.out _ rfl⟩
       ·have p0:((i:Int)==0)=E:=by simp;omega
        rw [decide_eq_false hi0] at HZ;clear hi0
        cases bad<;>cases eh<;>cases gA
        all_goals
         go_wp2_with fail
         go_meet
         case rel=>exact ⟨_,rfl,HZ.out _ rfl⟩
      case rest =>
       clear bw;obtain ⟨X5,oh,mK⟩:=hcut;subst oh;have b2:=mK.c2;have z2:=mK.z 2;have oH:=qH (mK.set2 h8 tz uc.out eh);clear mK;go_wp2_with fail
       go_meet
       case rel=>exact ⟨by rw [HE.out.2.2.2.2],_,rfl,by rw [←HE.out.1,←HE.out.2.1];exact oH.out⟩
    case rest =>
     clear bw Bc Bd sJ sI;obtain ⟨rfl,X6,hX6,qK⟩:=hcut;subst hX6;obtain ⟨nv,hnv⟩:∃v,(zAu dg).1=v:=⟨_,rfl⟩
     obtain ⟨ok,hok⟩:∃v,(zAu dg).2=v:=⟨_,rfl⟩
     have rn:=qH (zSA hnv hok X6)
     have wY:=qH (show zNj F.L x=⟨fv,nv,bv⟩ by
      unfold zNj
      rw [yE.out]
      simp only
      rw [nh.out.1,nh.out.2.2.1,←ud.out,←iy.out,←hnv,←tc.out]
      cases dot<;>rfl)
     have CF:=qH (show ((bad||bm)||!ok)=(bad||(zOq x||((ws.take i).isEmpty&&zTu x))) by
      have he:(ws.take i).isEmpty=decide (i=0):=by
       rcases Nat.eq_zero_or_pos i with h0 | h0
       ·rw [h0];rfl
       ·rw [decide_eq_false (by omega)]
        have:=HX.out
        cases ws with
        | nil=>simp at this
        | cons y ws=>cases i with
         | zero=>omega
         | succ i=>rfl
      unfold zOq zTu
      rw [yE.out,he]
      simp only
      rw [nh.out.1,nh.out.2.1,nh.out.2.2.1,nh.out.2.2.2,←hok,←uf.out,←tc.out]
      cases dot
      ·simp only [Bool.false_eq_true,if_false,Bool.not_false,Bool.and_true]
       cases bad<;>cases eh<;>cases gA<;>cases decide (i=0)<;>cases (zAu x.dropLast).2<;>rfl
      ·simp only [if_true,Bool.not_true,Bool.and_false,Bool.or_false]
       cases bad<;>cases zKD ca<;>cases lS<;>cases rt<;>cases (zAu cb).2<;>rfl)
     have de:=qH (show (lost||lm)=(lost||zUL F.L x) by
      unfold zUL
      rw [yE.out,←tZ.out])
     clear hnv hok ud iy uf tZ tc yE nh;go_wp2_with fail
     refine rn.out.mono ?_;rintro e X7 ⟨rfl,be⟩;have vE:=qK.below be;clear qK be rn;go_upto_region 20 with fail
     go_cut [106] (fun _ wv=>∃X:World,X=wv∧BitW X rb F T ((bad||bm)||!ok) (lost||lm) Y.heap.size A' i c' l a8 fv 0 bv Y)
     case first =>
      obtain ⟨bb,hbb⟩:∃b,(bad||bm)=b:=⟨_,rfl⟩
      have HZ:=qH (fun (q:Bool) (hq:q=(bb||!ok))=>vE.marked rB h8 q (!ok) (by rw [hbb];exact hq));have b4:=vE.bad4.1;have z4:=vE.bad4.2;rw [hbb] at b4;clear vE hbb CF
      cases bb<;>cases ok
      all_goals
       go_wp2_with fail
       go_meet
       case rel=>exact ⟨_,rfl,HZ.out _ rfl⟩
     case rest =>
      clear vE;obtain ⟨X8,hX8,xO⟩:=hcut;subst hX8;have b1:=xO.c1;have z1:=xO.z 1;have dC:=xO.set1 h8 tz uc.out nv;go_upto_region 22 with fail
      clear b1 z1 xO;generalize X8.setCell ⟨a8,1,U⟩ (D J nv)=X9 at dC ⊢;have f0:=dC.c0;have f1:=dC.c1;have f2:=dC.c2;have hsz:Y.heap.size≤X9.heap.size:=dC.2.2.2.size;go_upto_region 23 with (at_builtin;refine zGT ?_)
      refine qH ?_;refine zXL (y:=⟨fv,nv,bv⟩) (N:=i+1) (base:=Y.heap.size) (A:=A') (n:=i) (c:=c') (P:=l) rfl (.tmp 111) (.tmp 113) ?_ ?_ ?_ ?_ ?_ ?_ ?_ ?_
      ·rfl
      ·exact dC.2.1
      ·rfl
      ·rfl
      ·rfl
      ·omega
      ·exact hsz
      intro A2 c2 w9 hR9 bx bg;have aP:=dC.2.1.belowOf bx hsz;have zH:=dC.1.over (aP.mono (by omega));have rS:=zAd dC.2.2.2 aP
      have HF:=qH (show l++[(⟨fv,nv,bv⟩:Bi)]=(ws.take (i+1)).map (zNj F.L)∧((bad||bm)||!ok)=(bad0||zEW (ws.take (i+1)))∧(lost||lm)=(lost0||zGt F.L (ws.take (i+1))) by
       have hti:ws.take (i+1)=ws.take i++[x]:=by rw [List.take_add_one,HX.out];rfl
       rw [hti,zOr,zOs,List.map_append,CF.out,de.out,HI.out.1,HI.out.2.1,HI.out.2.2,List.map_singleton,wY.out,Bool.or_assoc,Bool.or_assoc]
       exact ⟨rfl,rfl,rfl⟩)
      clear dC aP bx bg f0 f1 f2 hsz CF de wY HI;go_wp2_with fail
      go_roundw
      case rel=>exact ⟨i+1,_,A2,c2,_,_,_,rfl,by omega,by go_num,rfl,zH,hR9,rS,HF⟩
      case measure=>simp [intOf];omega
  ·have j1:¬(i:Int) < (n:Int):=by omega
   have hin:i=n:=by omega
   have vO:=HI.out;rw [hin,←HN.out,List.take_length] at vO
   have HF:=qH (show zKW w rb F T bad0 lost0 ws (.returned (H A' i c')) V from
    ⟨A',c',by rw [HN.out,hin],by rw [←vO.1,HN.out,←hin];exact hR.mono (by omega),by rw [←vO.2.1,←vO.2.2];exact hr,zAb Fe.out hg⟩)
   clear vO hin hlt HI hr hR hg;go_wp2_with fail
   go_ret;exact HF.out
end Go.Proofs.YtlmdfmnbcndhoaaGreatDoor
