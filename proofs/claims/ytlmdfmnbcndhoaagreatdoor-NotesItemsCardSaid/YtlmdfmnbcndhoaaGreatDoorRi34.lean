/-
  Lemmas, part 34. Conditions: each theorem's own.
-/
import Derived.Test.YtlmdfmnbcndhoaaGreatDoorRi33
namespace Go.Proofs.YtlmdfmnbcndhoaaGreatDoor
open Go.RowKit
theorem zMn (S:List UInt8):0≤(zAu S).1∧(zAu S).1≤999999999:=by
 cases h:(zAu S).2 with
 | true =>
  obtain ⟨_,h2,h3⟩:=zCY (S:=S) (n:=(zAu S).1) (by rw [←h]);omega
 | false =>
  have:(zAu S).1=0:=by
   unfold zAu at h ⊢;split
   ·rename_i hc;rw [if_pos hc] at h;simp at h
   ·rfl
  omega
theorem zUc {L:List Fg} (hL:L.length≤17592186043904) (x:List UInt8):BiOk (zMi L x):=by
 have h1:=zMn (zGo x).2.1;have h2:=zMn x.dropLast;have h3:∀S,(zDg L S:Int)≤17592186043904:=fun S=>by
  unfold zDg
  cases zFP S with
  | none=>simp
  | some f=>have:=zDk (f:=f) (L:=L);simp only;omega
 have h4:=h3 (zGo x).1;unfold zMi;split
 ·refine ⟨⟨?_,?_⟩,⟨?_,?_⟩⟩<;>simp only<;>(try split)<;>omega
 ·refine ⟨⟨?_,?_⟩,⟨?_,?_⟩⟩<;>simp only<;>omega
theorem zRv {S:List UInt8} {v:Int} {ok:Bool} (h1:(zAu S).1=v) (h2:(zAu S).2=ok) (w:World) :
  Calls Tryz.prog 129 #[.string (bA S)] w fun e w'=>e=.returned (.tuple #[.int .i64 v,.bool ok])∧Below w.heap.size w w':=by
 subst h1;subst h2;exact zGT S w
def BitW (X:World) (rb:Nat) (F:Fm) (T:List (List UInt8)) (bad lost:Bool) (base:Nat) (A:Option Addr) (i c:Nat) (l:List Bi) (a8:Nat) (f n:Int) (b:Bool) (Y:World):Prop :=
 RX X rb F ⟨T,bad,lost⟩∧Row X base 3 A i c (l.flatMap zSy)∧Blk X a8 174 #[.int .i64 f,.int .i64 n,.bool b]∧Y.grownBy X (some rb)
section
variable {X V:World} {rb:Nat} {F:Fm} {T:List (List UInt8)} {bad lost:Bool} {base:Nat} {A:Option Addr} {i c:Nat} {l:List Bi} {a8:Nat} {f n:Int} {b:Bool} {Y:World}
theorem BitW.below (h:BitW X rb F T bad lost base A i c l a8 f n b Y) (hb:Below X.heap.size X V):BitW V rb F T bad lost base A i c l a8 f n b Y :=
 ⟨h.1.below hb,h.2.1.below hb,h.2.2.1.below hb h.2.2.1.lt,zAb h.2.2.2 (zAv hb)⟩
theorem BitW.marked (h:BitW X rb F T bad lost base A i c l a8 f n b Y) (hb:rb < base) (h8:rb < a8) (q m:Bool) (hq:q=(bad||m)):BitW (X.setCell ⟨rb,4,none⟩ (.bool q)) rb F T (bad||m) lost base A i c l a8 f n b Y:=by
 obtain ⟨h1,h2⟩:=h.1.marked m q hq;exact ⟨h1,h.2.1.overO h2 hb,h.2.2.1.grownO h2 h8,zAb h.2.2.2 h2⟩
theorem BitW.grown {lost2 bad2:Bool} (h:BitW X rb F T bad lost base A i c l a8 f n b Y) (hb:rb < base) (h8:rb < a8) (hx:RX V rb F ⟨T,bad2,lost2⟩) (hg:X.grownBy V (some rb)):BitW V rb F T bad2 lost2 base A i c l a8 f n b Y :=
 ⟨hx,h.2.1.overO hg hb,h.2.2.1.grownO hg h8,zAb h.2.2.2 hg⟩
theorem BitW.set0 (h:BitW X rb F T bad lost base A i c l a8 f n b Y) (h8:rb < a8) (hY:Y.heap.size≤a8) (hA:∀k,blk A=some k→k≠a8) (u:Int):BitW (X.setCell ⟨a8,0,none⟩ (.int .i64 u)) rb F T bad lost base A i c l a8 u n b Y :=
 ⟨h.1.over ((Below.refl _ _).setCell (p:=⟨a8,0,none⟩) h8 _),h.2.1.farSet 0 _ hA,h.2.2.1.set_ 0 _,zAc h.2.2.2 ((Below.refl _ _).setCell (p:=⟨a8,0,none⟩) hY _)⟩
theorem BitW.set1 (h:BitW X rb F T bad lost base A i c l a8 f n b Y) (h8:rb < a8) (hY:Y.heap.size≤a8) (hA:∀k,blk A=some k→k≠a8) (u:Int):BitW (X.setCell ⟨a8,1,none⟩ (.int .i64 u)) rb F T bad lost base A i c l a8 f u b Y :=
 ⟨h.1.over ((Below.refl _ _).setCell (p:=⟨a8,1,none⟩) h8 _),h.2.1.farSet 1 _ hA,h.2.2.1.set_ 1 _,zAc h.2.2.2 ((Below.refl _ _).setCell (p:=⟨a8,1,none⟩) hY _)⟩
theorem BitW.set2 (h:BitW X rb F T bad lost base A i c l a8 f n b Y) (h8:rb < a8) (hY:Y.heap.size≤a8) (hA:∀k,blk A=some k→k≠a8) (u:Bool):BitW (X.setCell ⟨a8,2,none⟩ (.bool u)) rb F T bad lost base A i c l a8 f n u Y :=
 ⟨h.1.over ((Below.refl _ _).setCell (p:=⟨a8,2,none⟩) h8 _),h.2.1.farSet 2 _ hA,h.2.2.1.set_ 2 _,zAc h.2.2.2 ((Below.refl _ _).setCell (p:=⟨a8,2,none⟩) hY _)⟩
theorem BitW.c0 (h:BitW X rb F T bad lost base A i c l a8 f n b Y):X.cell? ⟨a8,0,none⟩=some (.int .i64 f):=(h.2.2.1.cell 0).trans rfl
theorem BitW.c1 (h:BitW X rb F T bad lost base A i c l a8 f n b Y):X.cell? ⟨a8,1,none⟩=some (.int .i64 n):=(h.2.2.1.cell 1).trans rfl
theorem BitW.c2 (h:BitW X rb F T bad lost base A i c l a8 f n b Y):X.cell? ⟨a8,2,none⟩=some (.bool b):=(h.2.2.1.cell 2).trans rfl
theorem BitW.z (h:BitW X rb F T bad lost base A i c l a8 f n b Y) (k:Nat):X.frozen? ⟨a8,k,none⟩=false:=h.2.2.1.frozen k
theorem BitW.bad4 (h:BitW X rb F T bad lost base A i c l a8 f n b Y):X.cell? ⟨rb,4,none⟩=some (.bool bad)∧X.frozen? ⟨rb,4,none⟩=false:=h.1.bad4
end
def zKk (w:World) (rb:Nat) (F:Fm) (T:List (List UInt8)) (bad lost:Bool) (Ws:List (List UInt8)) (e:Ending) (w':World):Prop :=
 ∃A c,e=.returned (.slice A Ws.length c)∧Row w' w.heap.size 3 A Ws.length c ((Ws.map (zMi F.L)).flatMap zSy)∧RX w' rb F ⟨T,bad||zEp Ws,lost||zFC F.L Ws⟩∧w.grownBy w' (some rb)
set_option maxHeartbeats 12800000 in
set_option maxRecDepth 100000 in
theorem zLv (rb:Nat) (F:Fm) (T:List (List UInt8)) (bad0 lost0:Bool) (S:List UInt8) (w:World) (h:RX w rb F ⟨T,bad0,lost0⟩) (hS:S.length≤20000) (hT:∀X,w.grownBy X (some rb)→Tabs X) :
  Calls Tryz.prog 79 #[.pointer (some ⟨rb,0,none⟩),.string (bA S)] w (zKk w rb F T bad0 lost0 (zAH 32 S)):=by
 obtain ⟨ws,hws⟩:∃W,zAH 32 S=W:=⟨_,rfl⟩
 rw [hws];obtain ⟨n,hn⟩:∃n,ws.length=n:=⟨_,rfl⟩
 have hn9:n≤20001:=by rw [←hn,←hws];have:=zCe S;omega
 have hpl:∀p∈ws,p.length≤100000:=fun p hp=>by rw [←hws] at hp;exact Nat.le_trans (zAX 32 S p hp) (by omega)
 have HPL:=qH hpl;have HN:=qH hn;have HSP:=qH (zGW S (by omega) w (hT w (zBi _ _)));rw [hws,hn] at HSP;have HT:=qH hT;have HWS:=qH hws;clear hws hn hpl hS hT;go_enter Tryz.func79,Tryz.ntmps79;go_wp2_with fail
 refine HSP.out.mono ?_;rintro e Y ⟨rfl,hY⟩;have hbY:Below w.heap.size w Y:=by rw [hY];exact (Below.refl _ _).alloc (Nat.le_refl _) _
 have hcY:∀(j:Nat) (p:List UInt8),ws[j]? = some p→Y.cell? ⟨w.heap.size,j,none⟩=some (.string (bA p)):=fun j p hp=>by
  rw [hY,World.cell?_alloc_at _ _ _ _ rfl];simp [hp]
 have hlY:w.heap.size < Y.heap.size:=by rw [hY];simp
 have HCY:=qH hcY;have hrY:=h.below hbY;have hrw:rb < w.heap.size:=h.lt;have HGW:=qH (show w.grownBy Y (some rb) from zAv hbY);clear hY hcY HSP h;go_wp2_with fail
 go_loopw [5,19] (fun v5 v19 wv=>∃(i:Nat) (V:World) (A':Option Addr) (c':Nat) (l:List Bi) (bad lost:Bool),V=wv∧i≤n∧v19=.int .i64 i∧v5=.slice A' i c'∧RX V rb F ⟨T,bad,lost⟩∧Row V Y.heap.size 3 A' i c' (l.flatMap zSy)∧Y.grownBy V (some rb)∧Hid (l=(ws.take i).map (zMi F.L)∧bad=(bad0||zEp (ws.take i))∧lost=(lost0||zFC F.L (ws.take i)))) (fun _ v19 _=>n-(intOf v19).toNat)
 case atStart=>exact ⟨0,_,none,0,[],bad0,lost0,rfl,by omega,rfl,rfl,hrY,Row.none_ _ _ _,zBi _ _,qH ⟨rfl,by simp [zEp,zRm],by simp [zFC]⟩⟩
 case round =>
  clear hrY;obtain ⟨i,V,A',c',l,bad,lost,hV,hi,rfl,rfl,hr,hR,hg,HI⟩:=hrel;subst hV;by_cases hlt:i < n
  ·have j0:(0:Int)≤(i:Int):=by omega
   have j1:(i:Int) < (n:Int):=by omega
   obtain ⟨x,hx⟩:∃p,ws[i]? = some p:=⟨ws[i]'(by rw [HN.out];exact hlt),List.getElem?_eq_getElem _⟩
   have hxl:=HPL.out x (List.mem_of_getElem? hx);have hc:V.cell? ⟨w.heap.size,i,none⟩=some (.string (bA x)):=by
    rw [World.cell?_of_block (w:=Y) (w':=V) (a:=⟨w.heap.size,i,none⟩) (hg.block _ hlY (fun e=>by injection e with e;simp only at e;omega))];exact HCY.out i x hx
   have hgX:=hg.size;have hrV:=hr.lt;have hrY:rb < Y.heap.size:=by omega
   have hAV:=fun k hk=>(hR.lt k hk).2
   have hbl:=(Below.refl V.heap.size V).alloc (Nat.le_refl _) (.cells #[.int .i64 0,.int .i64 0,.bool false] 174)
   have hW0:BitW (V.alloc (.cells #[.int .i64 0,.int .i64 0,.bool false] 174)) rb F T bad lost Y.heap.size A' i c' l V.heap.size 0 0 false Y :=
    ⟨hr.below hbl,hR.below hbl,Blk.new _ _ _,zAb hg (zAv hbl)⟩
   have HX:=qH hx;obtain ⟨em,hem⟩:∃b,x.isEmpty=b:=⟨_,rfl⟩
   have n0:((bA x).toList==[])=em:=by rw [zAs,←hem];cases x<;>rfl
   have HEM:=qH hem;have hHA:∀k,blk A'=some k→k≠V.heap.size:=fun k hk=>Nat.ne_of_lt (hAV k hk)
   have HHA:=qH hHA;have h8:rb < V.heap.size:=hrV;have hY8:Y.heap.size≤V.heap.size:=hgX;clear hr hR hg hx hHA hAV hbl hem;go_upto_if 24 with fail
   clear hc;generalize V.alloc (.cells #[.int .i64 0,.int .i64 0,.bool false] 174)=X at hW0 ⊢;generalize V.heap.size=a8 at hW0 h8 hY8 HHA ⊢;go_cut [7,9] (fun v7 v9 wv=>v7=.string (bA x.dropLast)∧v9=.string (bA (zPB x))∧∃X:World,X=wv∧BitW X rb F T bad lost Y.heap.size A' i c' l a8 0 0 false Y)
   case first =>
    rcases List.eq_nil_or_concat x with rfl | ⟨y,c,rfl⟩
    ·have HW:=qH hW0;obtain rfl:true=em:=HEM.out;clear hW0 n0;go_wp2_with fail
     go_meet
     case rel=>exact ⟨rfl,rfl,_,rfl,HW.out⟩
    ·obtain ⟨m,hm⟩:∃m,y.length=m:=⟨_,rfl⟩
     rw [List.concat_eq_append] at *;have s1:=fun w=>zRt y c w
     have s2:=fun w=>zRu y c w
     have hsz:(bA (y++[c])).size=m+1:=by rw [zAC];simp [hm]
     rw [hm] at s1 s2;obtain rfl:false=em:=by rw [←HEM.out];cases y<;>rfl
     have q1:IntKind.i64.wrap (((m+1:Nat):Int)-1)=(m:Int):=by rw [show ((m+1:Nat):Int)-1=(m:Int) by omega];exact IntWalk.i64_in _ (by simp only [List.length_append,List.length_singleton] at hxl;omega)
     have q2:IntKind.i64.wrap ((m:Int)+1-1)=(m:Int):=by rw [show (m:Int)+1-1=(m:Int) by omega];exact IntWalk.i64_in _ (by simp only [List.length_append,List.length_singleton] at hxl;omega)
     have q4:m≤100000:=by simp only [List.length_append,List.length_singleton] at hxl;omega
     have HW:=qH (fun q=>hW0.below (zAf (Below.refl X.heap.size X) q));have HD:=qH (show (y++[c]).dropLast=y∧zPB (y++[c])=[c] from ⟨List.dropLast_concat,zPC y c⟩);clear hW0 hm;go_wp2_with fail
     go_quiet (fail)
     go_wp2_with fail
     go_meet
     case rel=>exact ⟨by rw [HD.out.1],by rw [HD.out.2],_,rfl,HW.out _⟩
   case rest =>
    clear hW0 n0;obtain ⟨rfl,rfl,X1,hX1,hW1⟩:=hcut;subst hX1;have hcl:x.dropLast.length≤100000:=by rw [List.length_dropLast];omega
    have hgw:=zAb HGW.out hW1.2.2.2;have HCU:=qH (zUb x.dropLast hcl X1 (HT.out X1 hgw));obtain ⟨⟨ca,cb,dot⟩,hci⟩:∃y,Lib.cut x.dropLast [46]=y:=⟨_,rfl⟩
    rw [hci] at HCU;have HCI:=qH (show zGo x=(ca,cb,dot) from hci);have g62:((bA (zPB x)).toList==[62])=zBJ x 62:=by rw [zAs];exact zJd x 62
    have g60:((bA (zPB x)).toList==[60])=zBJ x 60:=by rw [zAs];exact zJd x 60
    have g111:((bA (zPB x)).toList==[111])=zBJ x 111:=by rw [zAs];exact zJd x 111
    have g117:((bA (zPB x)).toList==[117])=zBJ x 117:=by rw [zAs];exact zJd x 117
    obtain ⟨l62,e62⟩:∃b,zBJ x 62=b:=⟨_,rfl⟩
    obtain ⟨l60,e60⟩:∃b,zBJ x 60=b:=⟨_,rfl⟩
    obtain ⟨l111,e111⟩:∃b,zBJ x 111=b:=⟨_,rfl⟩
    obtain ⟨l117,e117⟩:∃b,zBJ x 117=b:=⟨_,rfl⟩
    rw [e62] at g62;rw [e60] at g60;rw [e111] at g111;rw [e117] at g117;have HLS:=qH (show zBJ x 62=l62∧zBJ x 60=l60∧zBJ x 111=l111∧zBJ x 117=l117 from ⟨e62,e60,e111,e117⟩);generalize bA (zPB x)=en at g62 g60 g111 g117 ⊢;clear hci hgw e62 e60 e111 e117 hcl hxl;go_wp2_with fail
    refine HCU.out.mono ?_;rintro e X2 ⟨rfl,hb2⟩;have hW2:=hW1.below hb2;clear hW1 hb2 HCU;go_upto_if 42 with fail
    obtain ⟨dg,hdg⟩:∃d,(if dot then cb else x.dropLast)=d:=⟨_,rfl⟩
    obtain ⟨fv,hfv⟩:∃f:Int,(if dot then (if zDg F.L ca=0 then -1 else (zDg F.L ca:Int)) else 0)=f:=⟨_,rfl⟩
    obtain ⟨bv,hbv⟩:∃b:Bool,(if dot then l62 else l111)=b:=⟨_,rfl⟩
    obtain ⟨bm,hbm⟩:∃b:Bool,(if dot then zJO ca||!(l62||l60) else (!(l111||l117))||decide (i=0))=b:=⟨_,rfl⟩
    obtain ⟨lm,hlm⟩:∃b:Bool,(dot&&zEh F.L ca)=b:=⟨_,rfl⟩
    have HDG:=qH hdg;have HFV:=qH hfv;have HBV:=qH hbv;have HBM:=qH hbm;have HLM:=qH hlm;clear hdg hfv hbv hbm hlm;go_cut [10] (fun v10 wv=>v10=.string (bA dg)∧∃X:World,X=wv∧BitW X rb F T (bad||bm) (lost||lm) Y.heap.size A' i c' l a8 fv 0 bv Y)
    case first =>
     cases dot with
     | true =>
      have HF:=qH (fun wx (hx:RX wx rb F ⟨T,bad,lost⟩)=>zCr hx ca);obtain ⟨fx,hfx⟩:∃f,zDg F.L ca=f:=⟨_,rfl⟩
      obtain ⟨fb,hfb⟩:∃f,zJO ca=f:=⟨_,rfl⟩
      obtain ⟨fl,hfl⟩:∃f,zEh F.L ca=f:=⟨_,rfl⟩
      simp only [RS.fing,hfx,hfb,hfl] at HF;have hE:(if fx=0 then -1 else (fx:Int))=fv∧l62=bv∧(fb||!(l62||l60))=bm∧fl=lm∧cb=dg:=⟨by have:=HFV.out;rw [if_pos rfl,hfx] at this;exact this,by have:=HBV.out;rwa [if_pos rfl] at this,by have:=HBM.out;rw [if_pos rfl,hfb] at this;exact this,by have:=HLM.out;rw [hfl] at this;simpa using this,by have:=HDG.out;rwa [if_pos rfl] at this⟩;have HE:=qH hE;clear hfx hfb hfl hE HFV HBV HBM HLM HDG;have b0:=hW2.c0;have z0:=hW2.z 0;go_wp2_with fail
      refine (HF.out X2 hW2.1).mono ?_;rintro e X3 ⟨rfl,hx3,hg3⟩;have hW3:=hW2.grown hrY h8 hx3 hg3;clear hW2 hx3 hg3 HF b0 z0;have b0:=hW3.c0;have z0:=hW3.z 0;have hW4:=hW3.set0 h8 hY8 HHA.out (fx:Int);go_upto_region 13 with fail
      clear b0 z0 hW3;generalize X3.setCell ⟨a8,0,none⟩ (.int .i64 (fx:Int))=X4 at hW4 ⊢;go_cut [60] (fun _ wv=>∃X:World,X=wv∧BitW X rb F T (bad||bm) (lost||lm) Y.heap.size A' i c' l a8 fx 0 false Y)
      case first =>
       have HZ:=qH (fun (q:Bool) (hq:q=((bad||fb)||!(l62||l60)))=>(show BitW (X4.setCell ⟨rb,4,none⟩ (.bool q)) rb F T (bad||bm) (lost||lm) Y.heap.size A' i c' l a8 fx 0 false Y by
        have:=hW4.marked hrY h8 q (!(l62||l60)) hq
        rwa [Bool.or_assoc,HE.out.2.2.1,HE.out.2.2.2.1] at this))
       have b4:=hW4.bad4.1;have z4:=hW4.bad4.2;obtain ⟨bb,hbb⟩:∃b,(bad||fb)=b:=⟨_,rfl⟩
       rw [hbb] at b4 HZ;clear hW4 hbb HE
       cases bb<;>cases l62<;>cases l60
       all_goals
        go_wp2_with fail
        go_meet
        case rel=>exact ⟨_,rfl,HZ.out _ rfl⟩
      case rest =>
       clear hW4;obtain ⟨X5,hX5,hW5⟩:=hcut;subst hX5;have b2:=hW5.c2;have z2:=hW5.z 2;have b0:=hW5.c0;have z0:=hW5.z 0;have hW6:=hW5.set2 h8 hY8 HHA.out l62;have d0:=hW6.c0;have dz0:=hW6.z 0;have HW6:=qH hW6;have HW7:=qH (hW6.set0 h8 hY8 HHA.out (-1));have hE2:=HE.out;clear HE hW5 hW6;by_cases hf0:fx=0
       ·subst hf0;have HE:=qH (show (-1:Int)=fv∧l62=bv∧cb=dg from ⟨by rw [←hE2.1];rfl,hE2.2.1,hE2.2.2.2.2⟩);clear hE2;go_wp2_with fail
        go_meet
        case rel=>exact ⟨by rw [HE.out.2.2],_,rfl,by rw [←HE.out.1,←HE.out.2.1];exact HW7.out⟩
       ·have HE:=qH (show ((fx:Nat):Int)=fv∧l62=bv∧cb=dg from ⟨by rw [←hE2.1,if_neg hf0],hE2.2.1,hE2.2.2.2.2⟩);have k0:((fx:Int)==0)=false:=by simp;omega
        clear hE2 hf0;go_wp2_with fail
        go_meet
        case rel=>exact ⟨by rw [HE.out.2.2],_,rfl,by rw [←HE.out.1,←HE.out.2.1];exact HW6.out⟩
     | false =>
      have hE:(0:Int)=fv∧l111=bv∧((!(l111||l117))||decide (i=0))=bm∧false=lm∧x.dropLast=dg:=⟨by have:=HFV.out;rwa [if_neg (by simp)] at this,by have:=HBV.out;rwa [if_neg (by simp)] at this,by have:=HBM.out;rwa [if_neg (by simp)] at this,by have:=HLM.out;simpa using this,by have:=HDG.out;rwa [if_neg (by simp)] at this⟩;have HE:=qH hE;clear hE HFV HBV HBM HLM HDG;go_upto_region 17 with fail
      go_cut [87] (fun _ wv=>∃X:World,X=wv∧BitW X rb F T (bad||bm) (lost||lm) Y.heap.size A' i c' l a8 0 0 false Y)
      case first =>
       have HZ:=qH (fun (q:Bool) (hq:q=(bad||((!(l111||l117))||decide (i=0))))=>(show BitW (X2.setCell ⟨rb,4,none⟩ (.bool q)) rb F T (bad||bm) (lost||lm) Y.heap.size A' i c' l a8 0 0 false Y by
        have:=hW2.marked hrY h8 q ((!(l111||l117))||decide (i=0)) hq
        rwa [HE.out.2.2.1,show lost=(lost||lm) by rw [←HE.out.2.2.2.1];simp] at this))
       have b4:=hW2.bad4.1;have z4:=hW2.bad4.2;clear hW2 HE;by_cases hi0:i=0
       ·have p0:((i:Int)==0)=true:=by simp;omega
        rw [decide_eq_true hi0] at HZ;clear hi0
        cases bad<;>cases l111<;>cases l117
        all_goals
         go_wp2_with fail
         go_meet
         case rel=>exact ⟨_,rfl,HZ.out _ rfl⟩
       ·have p0:((i:Int)==0)=false:=by simp;omega
        rw [decide_eq_false hi0] at HZ;clear hi0
        cases bad<;>cases l111<;>cases l117
        all_goals
         go_wp2_with fail
         go_meet
         case rel=>exact ⟨_,rfl,HZ.out _ rfl⟩
      case rest =>
       clear hW2;obtain ⟨X5,hX5,hW5⟩:=hcut;subst hX5;have b2:=hW5.c2;have z2:=hW5.z 2;have HW6:=qH (hW5.set2 h8 hY8 HHA.out l111);clear hW5;go_wp2_with fail
       go_meet
       case rel=>exact ⟨by rw [HE.out.2.2.2.2],_,rfl,by rw [←HE.out.1,←HE.out.2.1];exact HW6.out⟩
    case rest =>
     clear hW2 g62 g60 g111 g117;obtain ⟨rfl,X6,hX6,hW6⟩:=hcut;subst hX6;obtain ⟨nv,hnv⟩:∃v,(zAu dg).1=v:=⟨_,rfl⟩
     obtain ⟨ok,hok⟩:∃v,(zAu dg).2=v:=⟨_,rfl⟩
     have HCN:=qH (zRv hnv hok X6)
     have HBI:=qH (show zMi F.L x=⟨fv,nv,bv⟩ by
      unfold zMi
      rw [HCI.out]
      simp only
      rw [HLS.out.1,HLS.out.2.2.1,←HFV.out,←HBV.out,←hnv,←HDG.out]
      cases dot<;>rfl)
     have HBB:=qH (show ((bad||bm)||!ok)=(bad||(zNn x||((ws.take i).isEmpty&&zSu x))) by
      have he:(ws.take i).isEmpty=decide (i=0):=by
       rcases Nat.eq_zero_or_pos i with h0 | h0
       ·rw [h0];rfl
       ·rw [decide_eq_false (by omega)]
        have:=HX.out
        cases ws with
        | nil=>simp at this
        | cons y ws=>cases i with
         | zero=>omega
         | succ i=>rfl
      unfold zNn zSu
      rw [HCI.out,he]
      simp only
      rw [HLS.out.1,HLS.out.2.1,HLS.out.2.2.1,HLS.out.2.2.2,←hok,←HBM.out,←HDG.out]
      cases dot
      ·simp only [Bool.false_eq_true,if_false,Bool.not_false,Bool.and_true]
       cases bad<;>cases l111<;>cases l117<;>cases decide (i=0)<;>cases (zAu x.dropLast).2<;>rfl
      ·simp only [if_true,Bool.not_true,Bool.and_false,Bool.or_false]
       cases bad<;>cases zJO ca<;>cases l62<;>cases l60<;>cases (zAu cb).2<;>rfl)
     have HLL:=qH (show (lost||lm)=(lost||zTU F.L x) by
      unfold zTU
      rw [HCI.out,←HLM.out])
     clear hnv hok HFV HBV HBM HLM HDG HCI HLS;go_wp2_with fail
     refine HCN.out.mono ?_;rintro e X7 ⟨rfl,hb7⟩;have hW7:=hW6.below hb7;clear hW6 hb7 HCN;go_upto_region 20 with fail
     go_cut [106] (fun _ wv=>∃X:World,X=wv∧BitW X rb F T ((bad||bm)||!ok) (lost||lm) Y.heap.size A' i c' l a8 fv 0 bv Y)
     case first =>
      obtain ⟨bb,hbb⟩:∃b,(bad||bm)=b:=⟨_,rfl⟩
      have HZ:=qH (fun (q:Bool) (hq:q=(bb||!ok))=>hW7.marked hrY h8 q (!ok) (by rw [hbb];exact hq));have b4:=hW7.bad4.1;have z4:=hW7.bad4.2;rw [hbb] at b4;clear hW7 hbb HBB
      cases bb<;>cases ok
      all_goals
       go_wp2_with fail
       go_meet
       case rel=>exact ⟨_,rfl,HZ.out _ rfl⟩
     case rest =>
      clear hW7;obtain ⟨X8,hX8,hW8⟩:=hcut;subst hX8;have b1:=hW8.c1;have z1:=hW8.z 1;have hW9:=hW8.set1 h8 hY8 HHA.out nv;go_upto_region 22 with fail
      clear b1 z1 hW8;generalize X8.setCell ⟨a8,1,none⟩ (.int .i64 nv)=X9 at hW9 ⊢;have f0:=hW9.c0;have f1:=hW9.c1;have f2:=hW9.c2;have hsz:Y.heap.size≤X9.heap.size:=hW9.2.2.2.size;go_upto_region 23 with (at_builtin;refine zEP ?_)
      refine qH ?_;refine zWy (y:=⟨fv,nv,bv⟩) (N:=i+1) (base:=Y.heap.size) (A:=A') (n:=i) (c:=c') (P:=l) rfl (.tmp 111) (.tmp 113) ?_ ?_ ?_ ?_ ?_ ?_ ?_ ?_
      ·rfl
      ·exact hW9.2.1
      ·rfl
      ·rfl
      ·rfl
      ·omega
      ·exact hsz
      intro A2 c2 w9 hR9 hg9 hl9;have hb9:=hW9.2.1.belowOf hg9 hsz;have hr9:=hW9.1.over (hb9.mono (by omega));have hg10:=zAc hW9.2.2.2 hb9
      have HF:=qH (show l++[(⟨fv,nv,bv⟩:Bi)]=(ws.take (i+1)).map (zMi F.L)∧((bad||bm)||!ok)=(bad0||zEp (ws.take (i+1)))∧(lost||lm)=(lost0||zFC F.L (ws.take (i+1))) by
       have hti:ws.take (i+1)=ws.take i++[x]:=by rw [List.take_add_one,HX.out];rfl
       rw [hti,zNo,zNp,List.map_append,HBB.out,HLL.out,HI.out.1,HI.out.2.1,HI.out.2.2,List.map_singleton,HBI.out,Bool.or_assoc,Bool.or_assoc]
       exact ⟨rfl,rfl,rfl⟩)
      clear hW9 hb9 hg9 hl9 f0 f1 f2 hsz HBB HLL HBI HI;go_wp2_with fail
      go_roundw
      case rel=>exact ⟨i+1,_,A2,c2,_,_,_,rfl,by omega,by go_num,rfl,hr9,hR9,hg10,HF⟩
      case measure=>simp [intOf];omega
  ·have j1:¬(i:Int) < (n:Int):=by omega
   have hin:i=n:=by omega
   have hIo:=HI.out;rw [hin,←HN.out,List.take_length] at hIo
   have HF:=qH (show zKk w rb F T bad0 lost0 ws (.returned (.slice A' i c')) V from
    ⟨A',c',by rw [HN.out,hin],by rw [←hIo.1,HN.out,←hin];exact hR.mono (by omega),by rw [←hIo.2.1,←hIo.2.2];exact hr,zAb HGW.out hg⟩)
   clear hIo hin hlt HI hr hR hg;go_wp2_with fail
   go_ret;exact HF.out
end Go.Proofs.YtlmdfmnbcndhoaaGreatDoor
