/-
  Lemmas, part 35. Conditions: each theorem's own.
-/
import Derived.Test.YtlmdfmnbcndhoaaGreatDoorRl34
namespace Go.Proofs.YtlmdfmnbcndhoaaGreatDoor
open Go.RowKit
theorem zMS (S:List UInt8):0≤(zAq S).1∧(zAq S).1≤999999999:=by
 cases h:(zAq S).2 with
 | true =>
  obtain ⟨_,h2,h3⟩:=zCn (S:=S) (n:=(zAq S).1) (by rw [←h]);omega
 | false =>
  have:(zAq S).1=0:=by
   unfold zAq at h ⊢;split
   ·rename_i hc;rw [if_pos hc] at h;simp at h
   ·rfl
  omega
theorem zUO {L:List Fg} (hL:L.length≤17592186043904) (x:List UInt8):BiOk (zMN L x):=by
 have h1:=zMS (zGC x).2.1;have h2:=zMS x.dropLast;have h3:∀S,(zDj L S:Int)≤17592186043904:=fun S=>by
  unfold zDj
  cases zGb S with
  | none=>simp
  | some f=>have:=zDp (f:=f) (L:=L);simp only;omega
 have h4:=h3 (zGC x).1;unfold zMN;split
 ·refine ⟨⟨?_,?_⟩,⟨?_,?_⟩⟩<;>simp only<;>(try split)<;>omega
 ·refine ⟨⟨?_,?_⟩,⟨?_,?_⟩⟩<;>simp only<;>omega
theorem zRY {S:List UInt8} {v:Int} {ok:Bool} (h1:(zAq S).1=v) (h2:(zAq S).2=ok) (w:World) :
  Calls Tryz.prog 129 #[.string (bA S)] w fun e w'=>e=.returned (.tuple #[.int .i64 v,.bool ok])∧Below w.heap.size w w':=by
 subst h1;subst h2;exact zHj S w
def BitW (X:World) (rb:Nat) (F:Fm) (T:List (List UInt8)) (bad lost:Bool) (base:Nat) (A:Option Addr) (i c:Nat) (l:List Bi) (a8:Nat) (f n:Int) (b:Bool) (Y:World):Prop :=
 RX X rb F ⟨T,bad,lost⟩∧Row X base 3 A i c (l.flatMap zTi)∧Blk X a8 174 #[.int .i64 f,.int .i64 n,.bool b]∧Y.grownBy X (some rb)
section
variable {X V:World} {rb:Nat} {F:Fm} {T:List (List UInt8)} {bad lost:Bool} {base:Nat} {A:Option Addr} {i c:Nat} {l:List Bi} {a8:Nat} {f n:Int} {b:Bool} {Y:World}
theorem BitW.below (h:BitW X rb F T bad lost base A i c l a8 f n b Y) (hb:Below X.heap.size X V):BitW V rb F T bad lost base A i c l a8 f n b Y :=
 ⟨h.1.below hb,h.2.1.below hb,h.2.2.1.below hb h.2.2.1.lt,zAb h.2.2.2 (zAz hb)⟩
theorem BitW.marked (h:BitW X rb F T bad lost base A i c l a8 f n b Y) (hb:rb < base) (h8:rb < a8) (q m:Bool) (hq:q=(bad||m)):BitW (X.setCell ⟨rb,4,none⟩ (.bool q)) rb F T (bad||m) lost base A i c l a8 f n b Y:=by
 obtain ⟨h1,h2⟩:=h.1.marked m q hq;exact ⟨h1,h.2.1.overO h2 hb,h.2.2.1.grownO h2 h8,zAb h.2.2.2 h2⟩
theorem BitW.grown {fS kO:Bool} (h:BitW X rb F T bad lost base A i c l a8 f n b Y) (hb:rb < base) (h8:rb < a8) (hx:RX V rb F ⟨T,kO,fS⟩) (hg:X.grownBy V (some rb)):BitW V rb F T kO fS base A i c l a8 f n b Y :=
 ⟨hx,h.2.1.overO hg hb,h.2.2.1.grownO hg h8,zAb h.2.2.2 hg⟩
theorem BitW.set0 (h:BitW X rb F T bad lost base A i c l a8 f n b Y) (h8:rb < a8) (hY:Y.heap.size≤a8) (hA:∀k,blk A=some k→k≠a8) (u:Int):BitW (X.setCell ⟨a8,0,none⟩ (.int .i64 u)) rb F T bad lost base A i c l a8 u n b Y :=
 ⟨h.1.over ((Below.refl _ _).setCell (p:=⟨a8,0,none⟩) h8 _),h.2.1.farSet 0 _ hA,h.2.2.1.set_ 0 _,zAc h.2.2.2 ((Below.refl _ _).setCell (p:=⟨a8,0,none⟩) hY _)⟩
theorem BitW.set1 (h:BitW X rb F T bad lost base A i c l a8 f n b Y) (h8:rb < a8) (hY:Y.heap.size≤a8) (hA:∀k,blk A=some k→k≠a8) (u:Int):BitW (X.setCell ⟨a8,1,none⟩ (.int .i64 u)) rb F T bad lost base A i c l a8 f u b Y :=
 ⟨h.1.over ((Below.refl _ _).setCell (p:=⟨a8,1,none⟩) h8 _),h.2.1.farSet 1 _ hA,h.2.2.1.set_ 1 _,zAc h.2.2.2 ((Below.refl _ _).setCell (p:=⟨a8,1,none⟩) hY _)⟩
theorem BitW.set2 (h:BitW X rb F T bad lost base A i c l a8 f n b Y) (h8:rb < a8) (hY:Y.heap.size≤a8) (hA:∀k,blk A=some k→k≠a8) (u:Bool):BitW (X.setCell ⟨a8,2,none⟩ (.bool u)) rb F T bad lost base A i c l a8 f n u Y :=
 ⟨h.1.over ((Below.refl _ _).setCell (p:=⟨a8,2,none⟩) h8 _),h.2.1.farSet 2 _ hA,h.2.2.1.set_ 2 _,zAc h.2.2.2 ((Below.refl _ _).setCell (p:=⟨a8,2,none⟩) hY _)⟩
theorem BitW.c0 (h:BitW X rb F T bad lost base A i c l a8 f n b Y):X.cell? ⟨a8,0,none⟩=some (.int .i64 f):=(h.2.2.1.cell 0).trans rfl
theorem BitW.c1 (h:BitW X rb F T bad lost base A i c l a8 f n b Y):X.cell? ⟨a8,1,none⟩=some (.int .i64 n):=(h.2.2.1.cell 1).trans rfl
theorem BitW.c2 (h:BitW X rb F T bad lost base A i c l a8 f n b Y):X.cell? ⟨a8,2,none⟩=some (.bool b):=(h.2.2.1.cell 2).trans rfl
theorem BitW.z (h:BitW X rb F T bad lost base A i c l a8 f n b Y) (k:Nat):X.frozen? ⟨a8,k,none⟩=false:=h.2.2.1.frozen k
theorem BitW.bad4 (h:BitW X rb F T bad lost base A i c l a8 f n b Y):X.cell? ⟨rb,4,none⟩=some (.bool bad)∧X.frozen? ⟨rb,4,none⟩=false:=h.1.bad4
end
def zKC (w:World) (rb:Nat) (F:Fm) (T:List (List UInt8)) (bad lost:Bool) (Ws:List (List UInt8)) (e:Ending) (w':World):Prop :=
 ∃A c,e=.returned (.slice A Ws.length c)∧Row w' w.heap.size 3 A Ws.length c ((Ws.map (zMN F.L)).flatMap zTi)∧RX w' rb F ⟨T,bad||zEq Ws,lost||zFP F.L Ws⟩∧w.grownBy w' (some rb)
set_option maxHeartbeats 12800000 in
set_option maxRecDepth 100000 in
theorem zLT (rb:Nat) (F:Fm) (T:List (List UInt8)) (bad0 lost0:Bool) (S:List UInt8) (w:World) (h:RX w rb F ⟨T,bad0,lost0⟩) (hS:S.length≤20000) (hT:∀X,w.grownBy X (some rb)→Tabs X) :
  Calls Tryz.prog 79 #[.pointer (some ⟨rb,0,none⟩),.string (bA S)] w (zKC w rb F T bad0 lost0 (zAR 32 S)):=by
 obtain ⟨ws,hws⟩:∃W,zAR 32 S=W:=⟨_,rfl⟩
 rw [hws];obtain ⟨n,hn⟩:∃n,ws.length=n:=⟨_,rfl⟩
 have EJ:n≤20001:=by rw [←hn,←hws];have:=zBu S;omega
 have hpl:∀p∈ws,p.length≤100000:=fun p hp=>by rw [←hws] at hp;exact Nat.le_trans (zBt 32 S p hp) (by omega)
 have cB:=qH hpl;have HN:=qH hn;have gK:=qH (zHl S (by omega) w (hT w (zBj _ _)));rw [hws,hn] at gK;have HT:=qH hT;have yT:=qH hws;clear hws hn hpl hS hT;go_enter Tryz.func79,Tryz.ntmps79;go_wp2_with fail
 refine gK.out.mono ?_;rintro e Y ⟨rfl,hY⟩;have uv:Below w.heap.size w Y:=by rw [hY];exact (Below.refl _ _).alloc (Nat.le_refl _) _
 have EP:∀(j:Nat) (p:List UInt8),ws[j]? = some p→Y.cell? ⟨w.heap.size,j,none⟩=some (.string (bA p)):=fun j p hp=>by
  rw [hY,World.cell?_alloc_at _ _ _ _ rfl];simp [hp]
 have hlY:w.heap.size < Y.heap.size:=by rw [hY];simp
 have AU:=qH EP;have tO:=h.below uv;have hrw:rb < w.heap.size:=h.lt;have GO:=qH (show w.grownBy Y (some rb) from zAz uv);clear hY EP gK h;go_wp2_with fail
 go_loopw [5,19] (fun v5 nT wv=>∃(i:Nat) (V:World) (A':Option Addr) (c':Nat) (l:List Bi) (bad lost:Bool),V=wv∧i≤n∧nT=.int .i64 i∧v5=.slice A' i c'∧RX V rb F ⟨T,bad,lost⟩∧Row V Y.heap.size 3 A' i c' (l.flatMap zTi)∧Y.grownBy V (some rb)∧Hid (l=(ws.take i).map (zMN F.L)∧bad=(bad0||zEq (ws.take i))∧lost=(lost0||zFP F.L (ws.take i)))) (fun _ nT _=>n-(intOf nT).toNat)
 case atStart=>exact ⟨0,_,none,0,[],bad0,lost0,rfl,by omega,rfl,rfl,tO,Row.none_ _ _ _,zBj _ _,qH ⟨rfl,by simp [zEq,zRP],by simp [zFP]⟩⟩
 case round =>
  clear tO;obtain ⟨i,V,A',c',l,bad,lost,hV,hi,rfl,rfl,hr,hR,hg,HI⟩:=hrel;subst hV;by_cases hlt:i < n
  ·have j0:(0:Int)≤(i:Int):=by omega
   have j1:(i:Int) < (n:Int):=by omega
   obtain ⟨x,hx⟩:∃p,ws[i]? = some p:=⟨ws[i]'(by rw [HN.out];exact hlt),List.getElem?_eq_getElem _⟩
   have hxl:=cB.out x (List.mem_of_getElem? hx);have hc:V.cell? ⟨w.heap.size,i,none⟩=some (.string (bA x)):=by
    rw [World.cell?_of_block (w:=Y) (w':=V) (a:=⟨w.heap.size,i,none⟩) (hg.block _ hlY (fun e=>by injection e with e;simp only at e;omega))];exact AU.out i x hx
   have fK:=hg.size;have EI:=hr.lt;have tO:rb < Y.heap.size:=by omega
   have yk:=fun k hk=>(hR.lt k hk).2
   have hbl:=(Below.refl V.heap.size V).alloc (Nat.le_refl _) (.cells #[.int .i64 0,.int .i64 0,.bool false] 174)
   have ce:BitW (V.alloc (.cells #[.int .i64 0,.int .i64 0,.bool false] 174)) rb F T bad lost Y.heap.size A' i c' l V.heap.size 0 0 false Y :=
    ⟨hr.below hbl,hR.below hbl,Blk.new _ _ _,zAb hg (zAz hbl)⟩
   have HX:=qH hx;obtain ⟨em,hem⟩:∃b,x.isEmpty=b:=⟨_,rfl⟩
   have n0:((bA x).toList==[])=em:=by rw [zAr,←hem];cases x<;>rfl
   have GT:=qH hem;have Fn:∀k,blk A'=some k→k≠V.heap.size:=fun k hk=>Nat.ne_of_lt (yk k hk)
   have wm:=qH Fn;have h8:rb < V.heap.size:=EI;have vN:Y.heap.size≤V.heap.size:=fK;clear hr hR hg hx Fn yk hbl hem;go_upto_if 24 with fail
   clear hc;generalize V.alloc (.cells #[.int .i64 0,.int .i64 0,.bool false] 174)=X at ce ⊢;generalize V.heap.size=a8 at ce h8 vN wm ⊢;go_cut [7,9] (fun v7 v9 wv=>v7=.string (bA x.dropLast)∧v9=.string (bA (zQf x))∧∃X:World,X=wv∧BitW X rb F T bad lost Y.heap.size A' i c' l a8 0 0 false Y)
   case first =>
    rcases List.eq_nil_or_concat x with rfl | ⟨y,c,rfl⟩
    ·have HW:=qH ce;obtain rfl:true=em:=GT.out;clear ce n0;go_wp2_with fail
     go_meet
     case rel=>exact ⟨rfl,rfl,_,rfl,HW.out⟩
    ·obtain ⟨m,hm⟩:∃m,y.length=m:=⟨_,rfl⟩
     rw [List.concat_eq_append] at *;have s1:=fun w=>zRW y c w
     have s2:=fun w=>zRX y c w
     have hsz:(bA (y++[c])).size=m+1:=by rw [zAL];simp [hm]
     rw [hm] at s1 s2;obtain rfl:false=em:=by rw [←GT.out];cases y<;>rfl
     have q1:IntKind.i64.wrap (((m+1:Nat):Int)-1)=(m:Int):=by rw [show ((m+1:Nat):Int)-1=(m:Int) by omega];exact IntWalk.i64_in _ (by simp only [List.length_append,List.length_singleton] at hxl;omega)
     have q2:IntKind.i64.wrap ((m:Int)+1-1)=(m:Int):=by rw [show (m:Int)+1-1=(m:Int) by omega];exact IntWalk.i64_in _ (by simp only [List.length_append,List.length_singleton] at hxl;omega)
     have q4:m≤100000:=by simp only [List.length_append,List.length_singleton] at hxl;omega
     have HW:=qH (fun q=>ce.below (zAf (Below.refl X.heap.size X) q));have HD:=qH (show (y++[c]).dropLast=y∧zQf (y++[c])=[c] from ⟨List.dropLast_concat,zQg y c⟩);clear ce hm;go_wp2_with fail
     go_quiet (fail)
     go_wp2_with fail
     go_meet
     case rel=>exact ⟨by rw [HD.out.1],by rw [HD.out.2],_,rfl,HW.out _⟩
   case rest =>
    clear ce n0;obtain ⟨rfl,rfl,X1,hX1,cS⟩:=hcut;subst hX1;have hcl:x.dropLast.length≤100000:=by rw [List.length_dropLast];omega
    have hgw:=zAb GO.out cS.2.2.2;have fP:=qH (zUN x.dropLast hcl X1 (HT.out X1 hgw));obtain ⟨⟨ca,cb,dot⟩,hci⟩:∃y,Lib.cut x.dropLast [46]=y:=⟨_,rfl⟩
    rw [hci] at fP;have AV:=qH (show zGC x=(ca,cb,dot) from hci);have CQ:((bA (zQf x)).toList==[62])=zBJ x 62:=by rw [zAr];exact zJr x 62
    have CR:((bA (zQf x)).toList==[60])=zBJ x 60:=by rw [zAr];exact zJr x 60
    have u9:((bA (zQf x)).toList==[111])=zBJ x 111:=by rw [zAr];exact zJr x 111
    have uZ:((bA (zQf x)).toList==[117])=zBJ x 117:=by rw [zAr];exact zJr x 117
    obtain ⟨nC,CZ⟩:∃b,zBJ x 62=b:=⟨_,rfl⟩
    obtain ⟨tF,C0⟩:∃b,zBJ x 60=b:=⟨_,rfl⟩
    obtain ⟨fT,vc⟩:∃b,zBJ x 111=b:=⟨_,rfl⟩
    obtain ⟨iZ,vb⟩:∃b,zBJ x 117=b:=⟨_,rfl⟩
    rw [CZ] at CQ;rw [C0] at CR;rw [vc] at u9;rw [vb] at uZ;have pk:=qH (show zBJ x 62=nC∧zBJ x 60=tF∧zBJ x 111=fT∧zBJ x 117=iZ from ⟨CZ,C0,vc,vb⟩);generalize bA (zQf x)=en at CQ CR u9 uZ ⊢;clear hci hgw CZ C0 vc vb hcl hxl;go_wp2_with fail
    refine fP.out.mono ?_;rintro e X2 ⟨rfl,ai⟩;have cA:=cS.below ai;clear cS ai fP;go_upto_if 42 with fail
    obtain ⟨dg,hdg⟩:∃d,(if dot then cb else x.dropLast)=d:=⟨_,rfl⟩
    obtain ⟨fv,hfv⟩:∃f:Int,(if dot then (if zDj F.L ca=0 then -1 else (zDj F.L ca:Int)) else 0)=f:=⟨_,rfl⟩
    obtain ⟨bv,hbv⟩:∃b:Bool,(if dot then nC else fT)=b:=⟨_,rfl⟩
    obtain ⟨bm,hbm⟩:∃b:Bool,(if dot then zKh ca||!(nC||tF) else (!(fT||iZ))||decide (i=0))=b:=⟨_,rfl⟩
    obtain ⟨lm,hlm⟩:∃b:Bool,(dot&&zEk F.L ca)=b:=⟨_,rfl⟩
    have vA:=qH hdg;have wn:=qH hfv;have kX:=qH hbv;have wt:=qH hbm;have wh:=qH hlm;clear hdg hfv hbv hbm hlm;go_cut [10] (fun mR wv=>mR=.string (bA dg)∧∃X:World,X=wv∧BitW X rb F T (bad||bm) (lost||lm) Y.heap.size A' i c' l a8 fv 0 bv Y)
    case first =>
     cases dot with
     | true =>
      have HF:=qH (fun wx (hx:RX wx rb F ⟨T,bad,lost⟩)=>zCq hx ca);obtain ⟨fx,hfx⟩:∃f,zDj F.L ca=f:=⟨_,rfl⟩
      obtain ⟨fb,hfb⟩:∃f,zKh ca=f:=⟨_,rfl⟩
      obtain ⟨fl,hfl⟩:∃f,zEk F.L ca=f:=⟨_,rfl⟩
      simp only [RS.fing,hfx,hfb,hfl] at HF;have hE:(if fx=0 then -1 else (fx:Int))=fv∧nC=bv∧(fb||!(nC||tF))=bm∧fl=lm∧cb=dg:=⟨by have:=wn.out;rw [if_pos rfl,hfx] at this;exact this,by have:=kX.out;rwa [if_pos rfl] at this,by have:=wt.out;rw [if_pos rfl,hfb] at this;exact this,by have:=wh.out;rw [hfl] at this;simpa using this,by have:=vA.out;rwa [if_pos rfl] at this⟩;have HE:=qH hE;clear hfx hfb hfl hE wn kX wt wh vA;have b0:=cA.c0;have z0:=cA.z 0;go_wp2_with fail
      refine (HF.out X2 cA.1).mono ?_;rintro e X3 ⟨rfl,EF,ip⟩;have dx:=cA.grown tO h8 EF ip;clear cA EF ip HF b0 z0;have b0:=dx.c0;have z0:=dx.z 0;have pA:=dx.set0 h8 vN wm.out (fx:Int);go_upto_region 13 with fail
      clear b0 z0 dx;generalize X3.setCell ⟨a8,0,none⟩ (.int .i64 (fx:Int))=X4 at pA ⊢;go_cut [60] (fun _ wv=>∃X:World,X=wv∧BitW X rb F T (bad||bm) (lost||lm) Y.heap.size A' i c' l a8 fx 0 false Y)
      case first =>
       have HZ:=qH (fun (q:Bool) (hq:q=((bad||fb)||!(nC||tF)))=>(show BitW (X4.setCell ⟨rb,4,none⟩ (.bool q)) rb F T (bad||bm) (lost||lm) Y.heap.size A' i c' l a8 fx 0 false Y by
        have:=pA.marked tO h8 q (!(nC||tF)) hq
        rwa [Bool.or_assoc,HE.out.2.2.1,HE.out.2.2.2.1] at this))
       have b4:=pA.bad4.1;have z4:=pA.bad4.2;obtain ⟨bb,hbb⟩:∃b,(bad||fb)=b:=⟨_,rfl⟩
       rw [hbb] at b4 HZ;clear pA hbb HE
       cases bb<;>cases nC<;>cases tF
       all_goals
        go_wp2_with fail
        go_meet
        case rel=>exact ⟨_,rfl,HZ.out _ rfl⟩
      case rest =>
       clear pA;obtain ⟨X5,qc,oN⟩:=hcut;subst qc;have b2:=oN.c2;have z2:=oN.z 2;have b0:=oN.c0;have z0:=oN.z 0;have sL:=oN.set2 h8 vN wm.out nC;have d0:=sL.c0;have dz0:=sL.z 0;have De:=qH sL;have HW7:=qH (sL.set0 h8 vN wm.out (-1));have sO:=HE.out;clear HE oN sL;by_cases hf0:fx=0
       ·subst hf0;have HE:=qH (show (-1:Int)=fv∧nC=bv∧cb=dg from ⟨by rw [←sO.1];rfl,sO.2.1,sO.2.2.2.2⟩);clear sO;go_wp2_with fail
        go_meet
        case rel=>exact ⟨by rw [HE.out.2.2],_,rfl,by rw [←HE.out.1,←HE.out.2.1];exact HW7.out⟩
       ·have HE:=qH (show ((fx:Nat):Int)=fv∧nC=bv∧cb=dg from ⟨by rw [←sO.1,if_neg hf0],sO.2.1,sO.2.2.2.2⟩);have k0:((fx:Int)==0)=false:=by simp;omega
        clear sO hf0;go_wp2_with fail
        go_meet
        case rel=>exact ⟨by rw [HE.out.2.2],_,rfl,by rw [←HE.out.1,←HE.out.2.1];exact De.out⟩
     | false =>
      have hE:(0:Int)=fv∧fT=bv∧((!(fT||iZ))||decide (i=0))=bm∧false=lm∧x.dropLast=dg:=⟨by have:=wn.out;rwa [if_neg (by simp)] at this,by have:=kX.out;rwa [if_neg (by simp)] at this,by have:=wt.out;rwa [if_neg (by simp)] at this,by have:=wh.out;simpa using this,by have:=vA.out;rwa [if_neg (by simp)] at this⟩;have HE:=qH hE;clear hE wn kX wt wh vA;go_upto_region 17 with fail
      go_cut [87] (fun _ wv=>∃X:World,X=wv∧BitW X rb F T (bad||bm) (lost||lm) Y.heap.size A' i c' l a8 0 0 false Y)
      case first =>
       have HZ:=qH (fun (q:Bool) (hq:q=(bad||((!(fT||iZ))||decide (i=0))))=>(show BitW (X2.setCell ⟨rb,4,none⟩ (.bool q)) rb F T (bad||bm) (lost||lm) Y.heap.size A' i c' l a8 0 0 false Y by
        have:=cA.marked tO h8 q ((!(fT||iZ))||decide (i=0)) hq
        rwa [HE.out.2.2.1,show lost=(lost||lm) by rw [←HE.out.2.2.2.1];simp] at this))
       have b4:=cA.bad4.1;have z4:=cA.bad4.2;clear cA HE;by_cases hi0:i=0
       ·have p0:((i:Int)==0)=true:=by simp;omega
        rw [decide_eq_true hi0] at HZ;clear hi0
        cases bad<;>cases fT<;>cases iZ
        all_goals
         go_wp2_with fail
         go_meet
         case rel=>exact ⟨_,rfl,HZ.out _ rfl⟩
       ·have p0:((i:Int)==0)=false:=by simp;omega
        rw [decide_eq_false hi0] at HZ;clear hi0
        cases bad<;>cases fT<;>cases iZ
        all_goals
         go_wp2_with fail
         go_meet
         case rel=>exact ⟨_,rfl,HZ.out _ rfl⟩
      case rest =>
       clear cA;obtain ⟨X5,qc,oN⟩:=hcut;subst qc;have b2:=oN.c2;have z2:=oN.z 2;have De:=qH (oN.set2 h8 vN wm.out fT);clear oN;go_wp2_with fail
       go_meet
       case rel=>exact ⟨by rw [HE.out.2.2.2.2],_,rfl,by rw [←HE.out.1,←HE.out.2.1];exact De.out⟩
    case rest =>
     clear cA CQ CR u9 uZ;obtain ⟨rfl,X6,hX6,sL⟩:=hcut;subst hX6;obtain ⟨nv,hnv⟩:∃v,(zAq dg).1=v:=⟨_,rfl⟩
     obtain ⟨ok,hok⟩:∃v,(zAq dg).2=v:=⟨_,rfl⟩
     have tt:=qH (zRY hnv hok X6)
     have zl:=qH (show zMN F.L x=⟨fv,nv,bv⟩ by
      unfold zMN
      rw [AV.out]
      simp only
      rw [pk.out.1,pk.out.2.2.1,←wn.out,←kX.out,←hnv,←vA.out]
      cases dot<;>rfl)
     have DM:=qH (show ((bad||bm)||!ok)=(bad||(zNP x||((ws.take i).isEmpty&&zTe x))) by
      have he:(ws.take i).isEmpty=decide (i=0):=by
       rcases Nat.eq_zero_or_pos i with h0 | h0
       ·rw [h0];rfl
       ·rw [decide_eq_false (by omega)]
        have:=HX.out
        cases ws with
        | nil=>simp at this
        | cons y ws=>cases i with
         | zero=>omega
         | succ i=>rfl
      unfold zNP zTe
      rw [AV.out,he]
      simp only
      rw [pk.out.1,pk.out.2.1,pk.out.2.2.1,pk.out.2.2.2,←hok,←wt.out,←vA.out]
      cases dot
      ·simp only [Bool.false_eq_true,if_false,Bool.not_false,Bool.and_true]
       cases bad<;>cases fT<;>cases iZ<;>cases decide (i=0)<;>cases (zAq x.dropLast).2<;>rfl
      ·simp only [if_true,Bool.not_true,Bool.and_false,Bool.or_false]
       cases bad<;>cases zKh ca<;>cases nC<;>cases tF<;>cases (zAq cb).2<;>rfl)
     have eR:=qH (show (lost||lm)=(lost||zUG F.L x) by
      unfold zUG
      rw [AV.out,←wh.out])
     clear hnv hok wn kX wt wh vA AV pk;go_wp2_with fail
     refine tt.out.mono ?_;rintro e X7 ⟨rfl,cI⟩;have xV:=sL.below cI;clear sL cI tt;go_upto_region 20 with fail
     go_cut [106] (fun _ wv=>∃X:World,X=wv∧BitW X rb F T ((bad||bm)||!ok) (lost||lm) Y.heap.size A' i c' l a8 fv 0 bv Y)
     case first =>
      obtain ⟨bb,hbb⟩:∃b,(bad||bm)=b:=⟨_,rfl⟩
      have HZ:=qH (fun (q:Bool) (hq:q=(bb||!ok))=>xV.marked tO h8 q (!ok) (by rw [hbb];exact hq));have b4:=xV.bad4.1;have z4:=xV.bad4.2;rw [hbb] at b4;clear xV hbb DM
      cases bb<;>cases ok
      all_goals
       go_wp2_with fail
       go_meet
       case rel=>exact ⟨_,rfl,HZ.out _ rfl⟩
     case rest =>
      clear xV;obtain ⟨X8,hX8,Ab⟩:=hcut;subst hX8;have b1:=Ab.c1;have z1:=Ab.z 1;have eJ:=Ab.set1 h8 vN wm.out nv;go_upto_region 22 with fail
      clear b1 z1 Ab;generalize X8.setCell ⟨a8,1,none⟩ (.int .i64 nv)=X9 at eJ ⊢;have f0:=eJ.c0;have f1:=eJ.c1;have f2:=eJ.c2;have hsz:Y.heap.size≤X9.heap.size:=eJ.2.2.2.size;go_upto_region 23 with (at_builtin;refine zEV ?_)
      refine qH ?_;refine zXp (y:=⟨fv,nv,bv⟩) (N:=i+1) (base:=Y.heap.size) (A:=A') (n:=i) (c:=c') (P:=l) rfl (.tmp 111) (.tmp 113) ?_ ?_ ?_ ?_ ?_ ?_ ?_ ?_
      ·rfl
      ·exact eJ.2.1
      ·rfl
      ·rfl
      ·rfl
      ·omega
      ·exact hsz
      intro A2 c2 w9 hR9 cl ck;have aS:=eJ.2.1.belowOf cl hsz;have BE:=eJ.1.over (aS.mono (by omega));have ui:=zAc eJ.2.2.2 aS
      have HF:=qH (show l++[(⟨fv,nv,bv⟩:Bi)]=(ws.take (i+1)).map (zMN F.L)∧((bad||bm)||!ok)=(bad0||zEq (ws.take (i+1)))∧(lost||lm)=(lost0||zFP F.L (ws.take (i+1))) by
       have hti:ws.take (i+1)=ws.take i++[x]:=by rw [List.take_add_one,HX.out];rfl
       rw [hti,zNQ,zNR,List.map_append,DM.out,eR.out,HI.out.1,HI.out.2.1,HI.out.2.2,List.map_singleton,zl.out,Bool.or_assoc,Bool.or_assoc]
       exact ⟨rfl,rfl,rfl⟩)
      clear eJ aS cl ck f0 f1 f2 hsz DM eR zl HI;go_wp2_with fail
      go_roundw
      case rel=>exact ⟨i+1,_,A2,c2,_,_,_,rfl,by omega,by go_num,rfl,BE,hR9,ui,HF⟩
      case measure=>simp [intOf];omega
  ·have j1:¬(i:Int) < (n:Int):=by omega
   have hin:i=n:=by omega
   have yb:=HI.out;rw [hin,←HN.out,List.take_length] at yb
   have HF:=qH (show zKC w rb F T bad0 lost0 ws (.returned (.slice A' i c')) V from
    ⟨A',c',by rw [HN.out,hin],by rw [←yb.1,HN.out,←hin];exact hR.mono (by omega),by rw [←yb.2.1,←yb.2.2];exact hr,zAb GO.out hg⟩)
   clear yb hin hlt HI hr hR hg;go_wp2_with fail
   go_ret;exact HF.out
end Go.Proofs.YtlmdfmnbcndhoaaGreatDoor
