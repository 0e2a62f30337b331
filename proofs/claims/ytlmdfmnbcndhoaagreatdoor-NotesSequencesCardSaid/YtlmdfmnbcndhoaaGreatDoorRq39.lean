/-
  Lemmas, part 39. Conditions: each theorem's own.
-/
import Derived.Test.YtlmdfmnbcndhoaaGreatDoorRq38
import Derived.Test.YtlmdfmnbcndhoaaGreatDoorRq02
import Derived.Test.YtlmdfmnbcndhoaaGreatDoorRq28
import Derived.Test.YtlmdfmnbcndhoaaGreatDoorRq35
open Go.Value renaming bool→G,int→D,slice→H
open Go.IntKind renaming i64→J
open Option renaming none→U,some→Z
open Bool renaming false→E,true→Q
namespace Go.Proofs.YtlmdfmnbcndhoaaGreatDoor
open Go.RowKit
def CmpW (X:World) (w:World) (k g mb:Nat) (l:List Bi) (ks:List Bi):Prop :=
 OwnI X w.heap.size g (k+2) (zCG k l)∧Seen X mb ks∧Below w.heap.size w X
theorem CmpW.below {X V w:World} {k g mb:Nat} {l ks:List Bi} (h:CmpW X w k g mb l ks) (hb:Below X.heap.size X V):CmpW V w k g mb l ks :=
 ⟨h.1.below hb h.1.lt,h.2.1.below hb h.2.1.lt,zAa h.2.2 hb h.2.2.size⟩
set_option maxHeartbeats 12800000 in
set_option maxRecDepth 100000 in
theorem zIx (k:Nat) (B:Option Addr) (n d:Nat) (l:List Bi) (w:World) (hB:Bits w B n l) (hk:k≤40) (hn:n≤20001) (hl:∀x∈l,0≤x.f∧x.f≤(k:Int)∧0≤x.n∧x.n≤999999999) :
  Calls Tryz.prog 80 #[D J (k:Int),H B n d] w (zFL w k l):=by
 have aZ:=qH hB.len;have HB:=qH hB;have HL:=qH hl;have hmm:=@run_makeMap Tryz.prog;have w1:wrap64 ((k:Int)+2)=((k+2:Nat):Int):=by unfold wrap64;omega
 clear hl hB;go_enter Tryz.func80,Tryz.ntmps80;go_upto_region 1 with fail
 go_upto_region 2 with (refine zIB rfl _ _ rfl (k+2) _ rfl rfl (by first | rfl | exact w1 | omega) (by omega) (base:=w.heap.size) (Nat.le_refl _) ?_;intro Y nD aa ny)
 clear w1;obtain ⟨g,hg⟩:∃g,w.heap.size=g:=⟨_,rfl⟩
 have HG:=qH hg;rw [hg] at nD aa ⊢;have AH:OwnI Y w.heap.size g (k+2) (zCG k []):=by rw [zSj];rw [hg];exact nD
 have hbl:=(Below.refl Y.heap.size Y).alloc (Nat.le_refl _) (.map #[] 0);have c8:CmpW (Y.alloc (.map #[] 0)) w k g Y.heap.size [] []:=⟨AH.below hbl AH.lt,Seen.made _,by have:=aa.alloc (by have:=nD.lt;omega) (.map #[] 0);rwa [←hg] at this⟩;have hgm:g < Y.heap.size:=nD.lt;clear hg nD aa ny AH hbl;go_upto_region 3 with fail
 generalize Y.alloc (.map #[] 0)=ZU at c8 ⊢;generalize Y.heap.size=mb at c8 hgm ⊢;clear hmm;go_wp2_with fail
 go_loopw [9,21] (fun v9 v21 wv=>∃(i:Nat) (X:World),X=wv∧i≤n∧v21=D J i∧v9=D J (zGu (l.take i):Nat)∧CmpW X w k g mb (l.take i) ((l.take i).map zGI)∧Hid ((l.take i).map zGI).Nodup) (fun _ v21 _=>n-(intOf v21).toNat)
 case atStart=>exact ⟨0,_,rfl,by omega,rfl,by simp [zGu],by simpa using c8,qH (by simp)⟩
 case round =>
  obtain ⟨i,X,hX,hi,rfl,rfl,hW,Cm⟩:=hrel;subst hX;clear c8;by_cases hlt:i < n
  ·have j0:(0:Int)≤(i:Int):=by omega
   have j1:(i:Int) < (n:Int):=by omega
   have lX:=HB.out.below hW.2.2;have hli:l[i]? = Z (ba l i):=zNi (by rw [aZ.out];exact hlt);have hbd:=HL.out _ (List.mem_of_getElem? hli);obtain ⟨gb,ob,rfl,hgb,⟨x0,x1,x2⟩,hok⟩:=lX.at_ hlt;obtain ⟨x,hxe⟩:∃x,ba l i=x:=⟨_,rfl⟩
   rw [hxe] at hli hbd x0 x1 x2 hok;have hbl:=(Below.refl X.heap.size X).alloc (Nat.le_refl _) (.cells #[D J x.f,D J x.n,G x.b] 174);have i8:Blk (X.alloc (.cells #[D J x.f,D J x.n,G x.b] 174)) X.heap.size 174 #[D J x.f,D J x.n,G x.b]:=Blk.new _ _ _;have dx:=hW.below hbl;have rG:mb < X.heap.size:=hW.2.1.lt;have dT:g < X.heap.size:=hW.1.lt;have zq:w.heap.size≤X.heap.size:=hW.2.2.size;have hvn:=zMg (l.take i);have hvl:zGu (l.take i)≤20001:=by rw [List.length_take] at hvn;omega
   have gk:=qH hok;have ma:=qH hli;have hi1:i+1≤n:=hlt;clear hW hbl lX hxe hli hok hvn;go_upto_region 7 with fail
   clear x0 x1 x2;generalize X.alloc (.cells #[D J x.f,D J x.n,G x.b] 174)=X1 at i8 dx ⊢;generalize X.heap.size=a11 at i8 rG dT zq ⊢;obtain ⟨x0,x1,x2⟩:=cQ3 i8;have hbl:=(Below.refl X1.heap.size X1).alloc (Nat.le_refl _) (.cells #[D J x.f,D J x.n,G x.b] 174);have cR:Blk (X1.alloc (.cells #[D J x.f,D J x.n,G x.b] 174)) X1.heap.size 174 #[D J x.f,D J x.n,G x.b]:=Blk.new _ _ _;have eC:=i8.below hbl i8.lt;have bw:=dx.below hbl;have vZ:a11 < X1.heap.size:=i8.lt;clear i8 dx hbl;go_upto_region 8 with fail
   clear x0 x1 x2;generalize X1.alloc (.cells #[D J x.f,D J x.n,G x.b] 174)=X2 at cR eC bw ⊢;generalize X1.heap.size=a12 at cR vZ ⊢;have x0:X2.cell? ⟨a11,0,U⟩=Z (D J x.f):=(eC.cell 0).trans rfl;go_upto_if 28 with fail
   clear x0;go_cut [9] (fun v9 wv=>v9=D J (zGu (l.take (i+1)):Nat)∧∃V:World,V=wv∧CmpW V w k g mb (l.take (i+1)) ((l.take i).map zGI)∧Blk V a12 174 #[D J (zGI x).f,D J (zGI x).n,G (zGI x).b])
   case first =>
    have hts:=zKX ma.out;by_cases hf:0 < x.f
    ·have HK:=qH (show zGI x=⟨x.f,x.n,E⟩ by unfold zGI;rw [if_pos hf]);have ym:=qH (show zGu (l.take (i+1))=zGu (l.take i) by rw [hts];exact zWu hf);obtain ⟨⟨xf,xn,xb⟩,rfl⟩:∃y,x=y:=⟨_,rfl⟩
     simp only at hf eC cR hbd HK ⊢;obtain ⟨q,rfl⟩:∃q:Nat,xf=(q:Int):=⟨xf.toNat,by omega⟩
     have hqk:q < k+2:=by omega
     have e1:=bw.1.cell (zGw k (l.take i) hqk);have z1:=bw.1.frozen q;have hcn:=zMf (l.take i) (q:Int);obtain ⟨v,hv⟩:∃v,zNk (l.take i) (q:Int)=v:=⟨_,rfl⟩
     have mR:=bw.1.stored q ((v:Int)+1);rw [←hv,zSi k (l.take i) (b:=⟨(q:Int),xn,xb⟩) hf rfl,←hts,hv] at mR;rw [hv] at e1 hcn;have tj:v≤20001:=by rw [List.length_take] at hcn;omega
     have w1:wrap64 ((v:Int)+1)=(v:Int)+1:=by unfold wrap64;omega
     have i7:(0:Int)≤(q:Int):=by omega
     have i9:(q:Int) < (k:Int)+2:=by omega
     have x0:X2.cell? ⟨a11,0,U⟩=Z (D J (q:Int)):=(eC.cell 0).trans rfl;have bj:=cR.far (p:=⟨g,q,U⟩) (show a12≠g by omega) (D J ((v:Int)+1));have AC:=bw.2.1.setCell (p:=⟨g,q,U⟩) (show mb≠g by omega) (D J ((v:Int)+1));have ac:=bw.2.2.setCell (p:=⟨g,q,U⟩) (show w.heap.size≤g by rw [HG.out];exact Nat.le_refl _) (D J ((v:Int)+1));have kf:decide ((0:Int) < (q:Int))=Q:=by simpa using hf
     have kq1:(0:Int) < (q:Int):=hf;have kq0:0 < q:=by omega
     clear hv hf hcn bw eC cR hts hqk hbd;go_upto_region 10 with fail
     clear e1 z1 x0 w1;generalize X2.setCell ⟨g,q,U⟩ (D J ((v:Int)+1))=X3' at mR bj AC ac ⊢;have y2:X3'.cell? ⟨a12,2,U⟩=Z (G xb):=(bj.cell 2).trans rfl;have yz:=bj.frozen 2;have eO:=bj.set_ 2 (G E);have oo:=mR.far (p:=⟨a12,2,U⟩) (show g≠a12 by omega) (G E);have vF:=AC.setCell (p:=⟨a12,2,U⟩) (show mb≠a12 by omega) (G E);have ah:=ac.setCell (p:=⟨a12,2,U⟩) (show w.heap.size≤a12 by omega) (G E);have HF:=qH (And.intro (show CmpW (X3'.setCell ⟨a12,2,U⟩ (G E)) w k g mb (l.take (i+1)) ((l.take i).map zGI) from ⟨oo,vF,ah⟩) eO);clear bj mR AC ac eO oo vF ah;go_wp2_with fail
     go_meet
     case rel=>exact ⟨by rw [ym.out],_,rfl,HF.out.1,by rw [HK.out];exact HF.out.2⟩
    ·have HK:=qH (show zGI x=x by unfold zGI;rw [if_neg hf]);have ym:=qH (show zGu (l.take (i+1))=zGu (l.take i)+1 by rw [hts];exact zUN hf);have Cn:=qH (show zCG k (l.take (i+1))=zCG k (l.take i) by rw [hts];exact zQm k _ hf);have HW:=qH bw;have Cu:=qH cR;have kf:decide (0 < x.f)=E:=decide_eq_false hf;obtain ⟨v,hv⟩:∃v,zGu (l.take i)=v:=⟨_,rfl⟩
     rw [hv] at hvl ym ⊢;clear bw eC cR hts hbd hv;go_wp2_with fail
     go_meet
     case rel=>exact ⟨by rw [ym.out];go_num,_,rfl,⟨by rw [Cn.out];exact HW.out.1,HW.out.2.1,HW.out.2.2⟩,by rw [HK.out];exact Cu.out⟩
   case rest =>
    clear bw eC cR hvl;obtain ⟨rfl,V,hV,bX,lj⟩:=hcut;subst hV;obtain ⟨y,hy⟩:∃y,zGI x=y:=⟨_,rfl⟩
    have hoky:BiOk y:=by rw [←hy];exact zVf gk.out
    have hlk:=bX.2.1.look hoky;rw [hy] at lj;obtain ⟨y0,y1,y2⟩:=cQ3 lj;have HY:=qH hy;clear lj hy;by_cases hm:y∈(l.take i).map zGI
    ·rw [decide_eq_true hm] at hlk;have hc:=zSC ma.out (by rw [HY.out];exact hm);have HF:=qH (show zFL w k l (.returned (.tuple #[H U 0 0,D J 0,G E])) V from .inr ⟨hc,rfl,bX.2.2⟩);clear hm bX hc;go_wp2_with fail
     go_ret3
     exact HF.out
    ·rw [decide_eq_false hm] at hlk;obtain ⟨w9,hpu,DG,bx⟩:=bX.2.1.push hoky hm;have hts:=zKX ma.out;have eZ:=bX.1.kept bx (show Z g≠Z mb by intro e;injection e;omega);have aP:Below w.heap.size w w9:=bX.2.2.grown bx bX.2.2.size (fun q hq=>by injection hq with hq;rw [←hq];have:=HG.out;omega)
     have HF:=qH (show CmpW w9 w k g mb (l.take (i+1)) ((l.take (i+1)).map zGI)∧((l.take (i+1)).map zGI).Nodup by
      rw [show (l.take (i+1)).map zGI=(l.take i).map zGI++[y] by rw [hts,List.map_append,List.map_singleton,HY.out]]
      exact ⟨⟨eZ,DG,aP⟩,zOB Cm.out hm⟩)
     clear hm bX DG bx eZ aP hts hoky;go_wp2_with fail
     go_roundw
     case rel=>exact ⟨i+1,_,rfl,hi1,by go_num,rfl,HF.out.1,qH HF.out.2⟩
     case measure=>simp [intOf];omega
  ·have j1:¬(i:Int) < (n:Int):=by omega
   have hin:l.take i=l:=by rw [List.take_of_length_le (by rw [aZ.out];omega)]
   rw [hin] at hW Cm ⊢;have hvn:=zMg l;rw [aZ.out] at hvn;obtain ⟨vi,hvi⟩:∃v,zGu l=v:=⟨_,rfl⟩
   rw [hvi] at hvn ⊢;have EU:=qH hvi;have zq:=hW.2.2.size;clear hin hlt hvi;generalize hXV:X=V at hW zq ⊢;clear hXV;go_wp2_with fail
   go_loopw [47] (fun v47 wv=>∃(j:Nat) (X:World),X=wv∧j≤n∧v47=D J j∧CmpW X w k g mb l (l.map zGI)∧Hid (∀t,t < j→zJK l (ba l t)=E)) (fun v47 _=>n-(intOf v47).toNat)
   case atStart=>exact ⟨0,_,rfl,by omega,rfl,hW,qH (fun t ht=>by omega)⟩
   case round =>
    obtain ⟨j,X,hX,hj,rfl,bw,HS⟩:=hrel;subst hX;by_cases hlt:j < n
    ·have j0:(0:Int)≤(j:Int):=by omega
     have j2:(j:Int) < (n:Int):=by omega
     have lX:=HB.out.below bw.2.2;have hlj:l[j]? = Z (ba l j):=zNi (by rw [aZ.out];exact hlt);have hbd:=HL.out _ (List.mem_of_getElem? hlj);obtain ⟨gb,ob,rfl,hgb,⟨x0,x1,x2⟩,hok⟩:=lX.at_ hlt;have HLJ:=qH (List.mem_of_getElem? hlj);obtain ⟨o,ho⟩:∃o,zJK l (ba l j)=o:=⟨_,rfl⟩
     have HO:=qH ho
     have eJ:=qH (fun (h:o=E) t (ht:t < j+1)=>(show zJK l (ba l t)=E by
      rcases Nat.decEq t j with e | e
      ·exact HS.out t (by omega)
      ·rw [e,HO.out,h]))
     obtain ⟨⟨xf,xn,xb⟩,hxe⟩:∃x,ba l j=x:=⟨_,rfl⟩
     rw [hxe] at hbd x0 x1 x2 hok ho;simp only at hbd x0 x1 x2;have hbl:=(Below.refl X.heap.size X).alloc (Nat.le_refl _) (.cells #[D J xf,D J xn,G xb] 174);have lk:Blk (X.alloc (.cells #[D J xf,D J xn,G xb] 174)) X.heap.size 174 #[D J xf,D J xn,G xb]:=Blk.new _ _ _;have bX:=bw.below hbl;have rm:=qH (fun (h:o=Q) wx (hx:Below w.heap.size w wx)=>(show zFL w k l (.returned (.tuple #[H U 0 0,D J 0,G E])) wx from .inr ⟨zQO HLJ.out (by rw [HO.out,h]),rfl,hx⟩));clear lX hlj hxe hok hbl bw;go_upto_region 19 with fail
     clear x0 x1 x2;generalize X.alloc (.cells #[D J xf,D J xn,G xb] 174)=X1 at lk bX ⊢;generalize X.heap.size=a14 at lk ⊢;obtain ⟨x0,x1⟩:=cQ2 lk;have lE:=qH (fun q=>bX.below (zAf (Below.refl X1.heap.size X1) q));have hj8:j+1≤n:=hlt;go_cut [80] (fun v80 wv=>v80=G o∧∃V:World,V=wv∧CmpW V w k g mb l (l.map zGI))
     case first =>
      unfold zJK at ho;simp only at ho;by_cases hf:0 < xf
      ·obtain ⟨q,rfl⟩:∃q:Nat,xf=(q:Int):=⟨xf.toNat,by omega⟩
       have hqk:q < k+2:=by omega
       have e1:=bX.1.cell (zGw k l hqk);have hcn:=zMf l (q:Int);obtain ⟨v,hv⟩:∃v,zNk l (q:Int)=v:=⟨_,rfl⟩
       rw [hv] at e1 hcn ho;rw [decide_eq_true hf,show ((q:Int)==0)=E by simp;omega,Bool.true_and,Bool.false_and,Bool.or_false] at ho;have kq1:(0:Int) < (q:Int):=hf;have kq0:0 < q:=by omega
       have kq:((q:Int)==0)=E:=by simp;omega
       have i7:(0:Int)≤(q:Int):=by omega
       have i9:(q:Int) < (k:Int)+2:=by omega
       have ie:=qH ho;clear bX lk hf hqk hcn hbd ho hv HO HS
       cases o with
       | true =>
        have c1:(v:Int) < xn:=by have:=ie.out;simpa using this
        clear ie;go_quiet (fail)
        go_wp2_with fail
        go_meet
        case rel=>exact ⟨rfl,_,rfl,lE.out _⟩
       | false =>
        have c1:¬(v:Int) < xn:=by have:=ie.out;simpa using this
        clear ie;go_quiet (fail)
        go_wp2_with fail
        go_meet
        case rel=>exact ⟨rfl,_,rfl,lE.out _⟩
      ·have hf0:xf=0:=by omega
       subst hf0;rw [decide_eq_false hf,Bool.false_and,Bool.false_or,show ((0:Int)==0)=Q from rfl,Bool.true_and,EU.out] at ho;obtain ⟨h2,tu⟩:∃h,vi / 2=h:=⟨_,rfl⟩
       obtain ⟨m2,da⟩:∃h,vi % 2=h:=⟨_,rfl⟩
       rw [tu,da] at ho;have t1:(vi:Int).tdiv 2=(h2:Int):=by rw [Int.tdiv_eq_ediv_of_nonneg (by omega)];omega
       have t3:(vi:Int).tmod 2=(m2:Int):=by rw [Int.tmod_eq_emod_of_nonneg (by omega)];omega
       have t4:(vi:Int) % 2=(m2:Int):=by omega
       have hh3:h2≤20001:=by omega
       have ie:=qH ho;have t5:IntKind.i64.wrap (h2:Int)=(h2:Int):=IntWalk.i64_in _ (by omega);clear bX lk hf hbd ho tu da HO HS;by_cases c1:(h2:Int) < xn
       ·obtain rfl:Q=o:=by have:=ie.out;rw [decide_eq_true c1] at this;simpa using this
        clear ie;go_quiet (fail)
        go_wp2_with fail
        go_meet
        case rel=>exact ⟨rfl,_,rfl,lE.out _⟩
       ·by_cases c2:m2=0
        ·obtain rfl:E=o:=by have:=ie.out;rw [decide_eq_false c1,c2] at this;simpa using this
         have c3:((m2:Int) != 0)=E:=by rw [c2];rfl
         subst c2;clear ie;go_quiet (fail)
         go_wp2_with fail
         go_meet
         case rel=>exact ⟨rfl,_,rfl,lE.out _⟩
        ·obtain rfl:Q=o:=by have:=ie.out;rw [decide_eq_false c1,show (m2 != 0)=Q by simpa using c2] at this;simpa using this
         have c3:((m2:Int) != 0)=Q:=by simp;omega
         clear ie c2;go_quiet (fail)
         go_wp2_with fail
         go_meet
         case rel=>exact ⟨rfl,_,rfl,lE.out _⟩
     case rest =>
      clear bX lk x0 x1 lE ho hbd;obtain ⟨rfl,V2,At,nB⟩:=hcut;subst At
      cases o with
      | true =>
       have HF:=qH (rm.out rfl V2 nB.2.2);clear nB rm eJ HO;go_wp2_with fail
       go_ret3
       exact HF.out
      | false =>
       have HF:=qH (eJ.out rfl);clear rm eJ HO;go_wp2_with fail
       go_roundw
       case rel=>exact ⟨j+1,_,rfl,hj8,by go_num,nB,HF⟩
       case measure=>simp [intOf];omega
    ·have j2:¬(j:Int) < (n:Int):=by omega
     have hc:=zSD Cm.out (fun t ht=>HS.out t (by rw [aZ.out] at ht;omega));have HF:=qH (show zFL w k l (.returned (.tuple #[H (Z ⟨g,0,U⟩) (k+2) (k+2),D J ((vi:Int) / 2),G Q])) X from .inl ⟨hc,g,by rw [EU.out,show ((vi / 2:Nat):Int)=(vi:Int) / 2 by omega],bw.1,bw.2.2⟩);have t3:(0:Int)≤(vi:Int):=by omega
     have t4:(vi:Int)≤20001:=by omega
     clear hc bw HS hlt hW;go_wp2_with fail
     (try simp only [Exit.inBlock,Exit.then])
     go_ret3
     exact HF.out
structure Ce where
 L:List Lt
 A:Option Addr
 n:Nat
 c:Nat
def zTC (K:Int) (e:Ce):List Value:=[D J K,H e.A e.n e.c]
structure CodesOwn (w:World) (base:Nat) (K:Int) (A:Option Addr) (n c:Nat) (Es:List Ce):Prop where
 row:Row w base 2 A n c (Es.flatMap (zTC K))
 ok:∀e∈Es,Lets w e.A e.n e.L∧∀k,blk e.A=Z k→k < w.heap.size∧blk A≠Z k
 cap:∀e∈Es,e.n≤e.c
section
variable {w w':World} {base:Nat} {K:Int} {A:Option Addr} {n c:Nat} {Es:List Ce}
theorem CodesOwn.none_ (w:World) (base:Nat) (K:Int):CodesOwn w base K U 0 0 []:=⟨Row.none_ _ _ _,by simp,by simp⟩
theorem CodesOwn.below (h:CodesOwn w base K A n c Es) (hb:Below w.heap.size w w'):CodesOwn w' base K A n c Es :=
 ⟨h.row.below hb,fun e he=>by obtain ⟨h1,h2⟩:=h.ok e he;exact ⟨h1.below hb,fun k hk=>⟨Nat.lt_of_lt_of_le (h2 k hk).1 hb.size,(h2 k hk).2⟩⟩,h.cap⟩
theorem CodesOwn.mono {base':Nat} (h:CodesOwn w base K A n c Es) (hb:base'≤base):CodesOwn w base' K A n c Es:=⟨h.row.mono hb,h.ok,h.cap⟩
theorem Lets.kept {B:Option Addr} {m:Nat} {L:List Lt} {row:Option Nat} (h:Lets w B m L) (hg:w.grownBy w' row) (hne:∀k,blk B=Z k→row≠Z k):Lets w' B m L:=by
 refine ⟨h.1,h.2.1,h.2.2.1,fun h0=>?_⟩;obtain ⟨g,o,e,hb,hc⟩:=h.2.2.2 h0;subst e;refine ⟨g,o,rfl,Nat.lt_of_lt_of_le hb hg.size,fun j x hx=>(hc j x hx).keep fun q hq=>?_⟩;exact World.cell?_of_block (w:=w) (w':=w') (by rw [hq];exact hg.block g hb (fun e=>hne g rfl e.symm))
theorem CodesOwn.push {A':Option Addr} {N c':Nat} (h:CodesOwn w base K A n c Es) (e:Ce) (he:Lets w e.A e.n e.L∧∀k,blk e.A=Z k→k < w.heap.size∧blk A≠Z k) (hcp:e.n≤e.c)
  (hr:Row w' base 2 A' N c' ((Es++[e]).flatMap (zTC K))) (hg:w.grownBy w' (blk A)) (hl:∀k,blk A'=Z k→blk A=Z k∨w.heap.size≤k):CodesOwn w' base K A' N c' (Es++[e]):=by
 have hcap:∀x∈Es++[e],x.n≤x.c:=fun x hx=>by
  rcases List.mem_append.1 hx with h1 | h1
  ·exact h.cap x h1
  ·rw [List.mem_singleton.1 h1];exact hcp
 refine ⟨hr,fun x hx=>?_,hcap⟩;have iX:Lets w x.A x.n x.L∧∀k,blk x.A=Z k→k < w.heap.size∧blk A≠Z k:=by
  rcases List.mem_append.1 hx with h1 | h1
  ·exact h.ok x h1
  ·rw [List.mem_singleton.1 h1];exact he
 obtain ⟨h1,h4⟩:=iX;refine ⟨h1.kept hg (fun k hk=>(h4 k hk).2),fun k hk=>⟨Nat.lt_of_lt_of_le (h4 k hk).1 hg.size,fun e2=>?_⟩⟩;rcases hl k e2 with h5 | h5
 ·exact (h4 k hk).2 h5
 ·have:=(h4 k hk).1;omega
theorem CodesOwn.len (h:CodesOwn w base K A n c Es):Es.length=n:=by
 have:=h.row.len;rw [zDs (zTC K) 2 (fun _=>rfl)] at this;omega
end
theorem zTD:(Tryz.prog.info? 55).map (fun i=>(i.zero,i.size,i.bytes))=Z (Z (.agg #[D J 0,H U 0 0]),2,32):=by kernel_rfl
theorem zXM (K:Int) (A:Option Addr) (n c:Nat) (w:World):(Instr.buildSlice 61 1 #[(0,.agg #[D J K,H A n c])]).run Tryz.prog w=.ok (H (Z ⟨w.heap.size,0,U⟩) 1 1) (w.alloc (.cells #[D J K,H A n c] 55)):=by
 obtain ⟨i0,hi,aQ,az,bi⟩:=info_parts zTD;refine run_buildSlice w _ _ 1 _ _ i0 _ Tryz.underlying61 hi aQ (by rw [az];omega) (by rw [az];omega) ?_;rw [az]
 kernel_rfl
theorem zXN {w:World} {ops:Array Oper} {rest:List Oper} {o:Oper} {a:Act} {ZS:Exit→Act→World→Prop} (hgd:o.guard=U) (s x:Operand)
  (ho:o.op=.call { callee:=.builtin .append,args:=#[s,x],argTypes:=#[61,61] })
  {base:Nat} {K:Int} {A:Option Addr} {n c:Nat} {Es:List Ce} (hst:Row w base 2 A n c (Es.flatMap (zTC K))) (y:Ce)
  (hs:a.eval s=H A n c) (hx:a.eval x=H (Z ⟨w.heap.size,0,U⟩) 1 1) (N:Nat) (hN:n+1=N) (hn:N≤1000000) (hbase:base≤w.heap.size)
  (h:∀A' c' w',Row w' base 2 A' N c' ((Es++[y]).flatMap (zTC K))→w.grownBy w' (blk A)→(∀k,blk A'=Z k→blk A=Z k∨w.heap.size≤k)→wpList Tryz.prog ops ZS rest (a.put o.dst (H A' N c')) w') :
  wpList Tryz.prog ops ZS (o :: rest) a (w.alloc (.cells #[D J K,H y.A y.n y.c] 55)):=by
 obtain ⟨i0,hi,aQ,az,bi⟩:=info_parts zTD;have hbl:=(Below.refl w.heap.size w).alloc (Nat.le_refl _) (.cells #[D J K,H y.A y.n y.c] 55);have bE:=hst.below hbl
 refine zPn hgd s x 61 ho 55 i0 _ 2 32 Tryz.underlying61 hi aQ az bi rfl (by decide) bE (Src.new (m:=1) (cs:=zTC K y) rfl)
  (by intro u hu;simp [zTC] at hu;rcases hu with rfl | rfl<;>rfl) hs hx N hN (by unfold maxLen;omega) (by omega) (by simp;omega) ?_
 intro A' c' w' h1 h2 h3 _;refine h A' c' w' (by rw [List.flatMap_append];simpa using h1) ?_ (fun k hk=>?_)
 ·exact zAb (zAt hbl) h2
 ·rcases h3 k hk with e | e
  ·exact .inl e
  ·exact .inr (by simp at e;omega)
noncomputable def zGM (F:List Fg) (S:List UInt8):List Bi:=(zBx 32 S).map (zNj F)
noncomputable def zCi (F:List Fg) (S:List UInt8):List Lt:=zBf (zCG F.length (zGM F S)) (zGM F S)
noncomputable def crS (F:List Fg) (S:List UInt8):Nat:=zGu (zGM F S) / 2
def zBm (F:List Fg) (re lo:Int) (cr:Nat) (L:List Lt) (m:Nat):List (List Lt):=((List.range m).map fun nu=>zCS cr nu L).filter fun M=>zBG F re lo (F.length:Int) M
theorem zMr {F:List Fg} {re lo:Int} {cr:Nat} {L:List Lt} {m:Nat} (h:zBG F re lo (F.length:Int) (zCS cr m L)=Q):zBm F re lo cr L (m+1)=zBm F re lo cr L m++[zCS cr m L]:=by
 unfold zBm;rw [List.range_succ,List.map_append,List.filter_append];simp [h]
theorem zOC {F:List Fg} {re lo:Int} {cr:Nat} {L:List Lt} {m:Nat} (h:zBG F re lo (F.length:Int) (zCS cr m L)=E):zBm F re lo cr L (m+1)=zBm F re lo cr L m:=by
 unfold zBm;rw [List.range_succ,List.map_append,List.filter_append];simp [h]
noncomputable def rqR (F:List Fg) (re lo:Int) (S:List UInt8):List (List Lt)×Int :=
 if zAS F re lo S≠0 then ([],zAS F re lo S)
 else if S=zIq then ([[]],0)
 else if zEW (zBx 32 S) then ([],6)
 else if zGt F (zBx 32 S) then ([],8)
 else if zGv (zGM F S)=E then ([],3)
 else if 12 < crS F S∨400 < (zCi F S).length then ([],7)
 else if zBm F re lo (crS F S) (zCi F S) (2 ^ crS F S)=[] then ([],3)
 else (zBm F re lo (crS F S) (zCi F S) (2 ^ crS F S),0)
def zSE (w0:World) (K:Int) (Cs:List (List Lt)) (er:Int) (e:Ending) (w':World):Prop :=
 ∃B m d Es,e=.returned (.tuple #[H B m d,D J er])∧List.map (fun x:Ce=>x.L) Es=Cs∧m≤1000000∧CodesOwn w' w0.heap.size K B m d Es∧Below w0.heap.size w0 w'
theorem zSF {F:List Fg} {T:List (List UInt8)} (h1:zEW T=E) (h2:zGt F T=E):∀x∈T.map (zNj F),0≤x.f∧x.f≤(F.length:Int)∧1≤x.n∧x.n≤999999999:=by
 obtain ⟨ZV,hU,rfl⟩:=zOw h1;obtain ⟨a1,a2,_⟩:=zQs F hU;rw [a2] at h2;rw [a1];intro x hx;obtain ⟨t,ht,rfl⟩:=List.mem_map.1 hx;have hg:zOv F t=E:=by
  rw [List.any_eq_false] at h2;simpa using h2 t ht
 obtain ⟨k1,k2,k3⟩:=hU t ht;obtain ⟨fg,n,b⟩:=t;simp only at k1 k2 k3
 cases fg with
 | none=>simp only [btI];omega
 | some f =>
  simp only [zOv,zBF,decide_eq_false_iff_not] at hg;have:=zEL (f:=f) (L:=F);simp only [btI];rw [if_neg hg];omega
theorem zSG {l:List Bi} (h:zGv l=Q) {x:Bi} (hx:x∈l) (h0:x.f=0):x.n≤((zGu l / 2:Nat):Int)∧zGu l % 2=0:=by
 unfold zGv at h;simp only [Bool.and_eq_true,List.all_eq_true,Bool.not_eq_true'] at h;have:=h.2 x hx;unfold zJK at this;rw [h0] at this;simp only [Bool.or_eq_false_iff,Bool.and_eq_false_iff] at this;have h3:=this.2.resolve_left (by simp);simp only [decide_eq_false_iff_not,bne_eq_false_iff_eq] at h3;omega
theorem zQP {M:List Int} {l:List Bi} {i:Nat} (hi:i < (zBf M l).length) (hc:isC (la (zBf M l) i)=Q):∃x∈l,x.f=0∧(la (zBf M l) i).id=x.n:=by
 have hm:la (zBf M l) i∈zBf M l:=by
  unfold la;rw [List.getElem?_eq_getElem hi];exact List.getElem_mem hi
 generalize la (zBf M l) i=y at hm hc ⊢;unfold zBf at hm;obtain ⟨x,hx,hm⟩:=List.mem_flatMap.1 hm;refine ⟨x,hx,?_⟩;unfold zMe at hm;split at hm
 ·rename_i h0;rw [List.mem_singleton.1 hm];exact ⟨h0,rfl⟩
 ·exfalso;split at hm
  ·simp only [List.mem_cons,List.not_mem_nil,or_false] at hm;rcases hm with e | e<;>rw [e] at hc<;>simp [isC] at hc
  ·simp only [List.mem_cons,List.not_mem_nil,or_false] at hm;rcases hm with e | e<;>rw [e] at hc<;>simp [isC] at hc
def itA (F:List Fg) (L:List Lt) (i:Nat):List It :=
 if isC (la L i) then [⟨U,(la L i).id,(la L i).over⟩] else if dwn L i then [⟨Z (fa F (la L (liN L i)).gate.toNat),(nuN L i:Int),!decide ((la L (i+1)).gate < (la L i).gate)⟩] else []
section
variable {K:Int} {L:List Lt} {F:List Fg} {re lo:Int}
theorem PosP.kind (p:PosP K L) {i:Nat} (hi:i < L.length):(isC (la L i)=Q∧isP (la L i)=E)∨(isC (la L i)=E∧dnB L i=Q)∨(isC (la L i)=E∧isP (la L i)=Q∧dwn L i=E):=by
 rcases p.good.kinds i hi with h | h
 ·have hc:=zCw h
  cases hd:dwn L i with
  | true=>exact .inr (.inl ⟨hc,zCP.2 ⟨h,hd⟩⟩)
  | false=>exact .inr (.inr ⟨hc,h,rfl⟩)
 ·exact .inl ⟨h,zLs h⟩
theorem PosP.gate0 (p:PosP K L) {i:Nat} (h:dnB L i=Q):0≤(la L (liN L i)).gate∧(la L (liN L i)).gate+1≤K:=by
 obtain ⟨g1,g2,g3⟩:=p.gates h;have:=p.good.gates _ (zBA g2) g2;have:=p.good.gates _ (zBA g3) g3;omega
end
section
variable {K:Int} {L:List Lt} {F:List Fg} {re lo:Int}
theorem zWJ {i:Nat} (h:isC (la L i)=Q):itA F L i=[⟨U,(la L i).id,(la L i).over⟩]:=by unfold itA;rw [if_pos h]
theorem zVg {i:Nat} (h:dnB L i=Q):itA F L i=[⟨Z (fa F (la L (liN L i)).gate.toNat),(nuN L i:Int),!decide ((la L (i+1)).gate < (la L i).gate)⟩]:=by
 obtain ⟨h1,h2⟩:=zCP.1 h;unfold itA;rw [if_neg (by rw [zCw h1];simp),if_pos h2]
theorem zWK {i:Nat} (h1:isC (la L i)=E) (h2:dwn L i=E):itA F L i=[]:=by unfold itA;rw [if_neg (by rw [h1];simp),if_neg (by rw [h2];simp)]
theorem PosP.seq_items (p:PosP K L) {i:Nat} (hi:i < L.length):zGx F L i=(itA F L i).map itW:=by
 unfold zGx;rcases p.kind hi with ⟨h1,h2⟩ | ⟨h1,h2⟩ | ⟨h1,h2,h3⟩
 ·rw [if_pos h1,zWJ h1];rfl
 ·have g0:=p.gate0 h2;rw [if_neg (by rw [h1];simp),if_pos (zCP.1 h2).2,zVg h2];simp only [List.map_cons,List.map_nil];have h3:=p.left_rank h2;unfold zKP itW nmF zSk;rw [zUQ,h3];simp only;rw [show ((lpC L (la L (liN L i)).gate L.length:Int)+(nuN L i:Int)-(lpC L (la L (liN L i)).gate L.length:Int))=(nuN L i:Int) by omega,show ((la L (liN L i)).gate+1-1).toNat=(la L (liN L i)).gate.toNat by omega];by_cases hg:(la L (i+1)).gate < (la L i).gate<;>simp [hg]
 ·rw [if_neg (by rw [h1];simp),if_neg (by rw [h3];simp),zWK h1 h3];rfl
theorem PosP.ids (p:PosP K L) {i:Nat} (hi:i < L.length) (h:isC (la L i)=Q):1≤(la L i).id∧(la L i).id≤((cN L L.length / 2:Nat):Int):=(zBn.1 (p.good.cross i hi) h).1
end
section
variable {K:Int} {L:List Lt} {F:List Fg} {re lo:Int}
theorem zVh (h:zBG F re lo K L=Q) (h0:0 < L.length):PosP K L∧frOk F re lo∧K=(F.length:Int)∧L.length≤400∧(∀i,i < L.length→lpB K (la L i)=Q):=by
 unfold zBG at h;simp only [Bool.and_eq_true,beq_iff_eq] at h;obtain ⟨⟨⟨h1,h2⟩,h3⟩,h4⟩:=h;have ht:=zCq h2;obtain ⟨c1,c2,c3,c4⟩:=zEY h2
 have hv:zAQ K L=Q:=by rcases c4 with h | h;· omega
                       ·exact h
 have g:=zDo h0 hv;have hpo:∀i,i < L.length→poB L i=Q:=zAv.1 h4
 have key:∀i,i < L.length→isP (la L i)=Q→dwn L i=Q→i+1 < L.length∧isP (la L (i+1))=Q∧((la L (i+1)).gate-(la L i).gate=1∨(la L i).gate-(la L (i+1)).gate=1):=by
  intro i hi hp hd;have hlt:i+1 < L.length:=by
   rcases Nat.lt_or_ge (i+1) L.length with h | h
   ·exact h
   ·have e:i+1=L.length:=by omega
    have ip:dwn L (i+1)=E:=by rw [zPe hp,hd];rfl
    rw [e] at ip;unfold dwn at ip;have:=g.even;simp [this] at ip
  have:=hpo i hi;unfold poB neB nxL at this;rw [hp,hd,Nat.mod_eq_of_lt hlt] at this;simp only [Bool.and_self,Bool.not_true,Bool.false_or,Bool.and_eq_true,Bool.or_eq_true,beq_iff_eq] at this;exact ⟨hlt,this.1,this.2⟩
 have hfl:zFX L=Q:=by
  unfold zAQ at hv;simp only [Bool.and_eq_true] at hv;exact hv.2
 have hll:∀i,i < L.length→lpB K (la L i)=Q:=by
  unfold zAQ at hv;simp only [Bool.and_eq_true] at hv;have h5:=hv.1.2;rw [←zCb] at h5;simp only [Bool.and_eq_true] at h5;exact fun i hi=>zAv.1 h5.1.1 i hi
 refine ⟨⟨g,hfl,fun i hi hp hd=>⟨(key i hi hp hd).1,(key i hi hp hd).2.1⟩,fun i hd=>?_⟩,zCz.1 h1,h3,ht.len,hll⟩;obtain ⟨d1,d2⟩:=zCP.1 hd;exact (key i (zBA d1) d1 d2).2.2
theorem zIT:zBr F re lo K L=0↔zBG F re lo K L=Q:=by
 refine ⟨fun h=>(zEZ h).1,fun h=>?_⟩;have h':=h;unfold zBG at h;simp only [Bool.and_eq_true,beq_iff_eq] at h;unfold zBr;rw [if_neg (by rw [h.1.1.1];simp),if_neg (by rw [h.1.1.2];simp),if_pos h']
end
end Go.Proofs.YtlmdfmnbcndhoaaGreatDoor
