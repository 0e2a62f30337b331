/-
  Lemmas, part 37. Conditions: each theorem's own.
-/
import Derived.Test.YtlmdfmnbcndhoaaGreatDoorRc36
import Derived.Test.YtlmdfmnbcndhoaaGreatDoorRc20
import Derived.Test.YtlmdfmnbcndhoaaGreatDoorRc25
open Go.Value renaming bool→G,int→D,slice→H
open Go.IntKind renaming i64→J
open Option renaming none→U,some→Z
open Bool renaming false→E,true→Q
namespace Go.Proofs.YtlmdfmnbcndhoaaGreatDoor
open Go.RowKit
def CmpW (X:World) (w:World) (k g mb:Nat) (l:List Bi) (ks:List Bi):Prop :=
 OwnI X w.heap.size g (k+2) (zBQ k l)∧Seen X mb ks∧Below w.heap.size w X
theorem CmpW.below {X V w:World} {k g mb:Nat} {l ks:List Bi} (h:CmpW X w k g mb l ks) (hb:Below X.heap.size X V):CmpW V w k g mb l ks :=
 ⟨h.1.below hb h.1.lt,h.2.1.below hb h.2.1.lt,zAa h.2.2 hb h.2.2.size⟩
set_option maxHeartbeats 12800000 in
set_option maxRecDepth 100000 in
theorem zIq (k:Nat) (B:Option Addr) (n d:Nat) (l:List Bi) (w:World) (hB:Bits w B n l) (hk:k≤40) (hn:n≤20001) (hl:∀x∈l,0≤x.f∧x.f≤(k:Int)∧0≤x.n∧x.n≤999999999) :
  Calls Tryz.prog 80 #[D J (k:Int),H B n d] w (zFG w k l):=by
 have bj:=qH hB.len;have HB:=qH hB;have HL:=qH hl;have hmm:=@run_makeMap Tryz.prog;have w1:wrap64 ((k:Int)+2)=((k+2:Nat):Int):=by unfold wrap64;omega
 clear hl hB;go_enter Tryz.func80,Tryz.ntmps80;go_upto_region 1 with fail
 go_upto_region 2 with (refine zGq rfl _ _ rfl (k+2) _ rfl rfl (by first | rfl | exact w1 | omega) (by omega) (base:=w.heap.size) (Nat.le_refl _) ?_;intro Y mp aa lq)
 clear w1;obtain ⟨g,hg⟩:∃g,w.heap.size=g:=⟨_,rfl⟩
 have HG:=qH hg;rw [hg] at mp aa ⊢;have B7:OwnI Y w.heap.size g (k+2) (zBQ k []):=by rw [zSs];rw [hg];exact mp
 have hbl:=(Below.refl Y.heap.size Y).alloc (Nat.le_refl _) (.map #[] 0);have bF:CmpW (Y.alloc (.map #[] 0)) w k g Y.heap.size [] []:=⟨B7.below hbl B7.lt,Seen.made _,by have:=aa.alloc (by have:=mp.lt;omega) (.map #[] 0);rwa [←hg] at this⟩;have hgm:g < Y.heap.size:=mp.lt;clear hg mp aa lq B7 hbl;go_upto_region 3 with fail
 generalize Y.alloc (.map #[] 0)=ZU at bF ⊢;generalize Y.heap.size=mb at bF hgm ⊢;clear hmm;go_wp2_with fail
 go_loopw [9,21] (fun v9 v21 wv=>∃(i:Nat) (X:World),X=wv∧i≤n∧v21=D J i∧v9=D J (zCN (l.take i):Nat)∧CmpW X w k g mb (l.take i) ((l.take i).map zEX)∧Hid ((l.take i).map zEX).Nodup) (fun _ v21 _=>n-(intOf v21).toNat)
 case atStart=>exact ⟨0,_,rfl,by omega,rfl,by simp [zCN],by simpa using bF,qH (by simp)⟩
 case round =>
  obtain ⟨i,X,hX,hi,rfl,rfl,hW,Dj⟩:=hrel;subst hX;clear bF;by_cases hlt:i < n
  ·have j0:(0:Int)≤(i:Int):=by omega
   have j1:(i:Int) < (n:Int):=by omega
   have jD:=HB.out.below hW.2.2;have hli:l[i]? = Z (ba l i):=zCK (by rw [bj.out];exact hlt);have hbd:=HL.out _ (List.mem_of_getElem? hli);obtain ⟨gb,ob,rfl,hgb,⟨x0,x1,x2⟩,hok⟩:=jD.at_ hlt;obtain ⟨x,hxe⟩:∃x,ba l i=x:=⟨_,rfl⟩
   rw [hxe] at hli hbd x0 x1 x2 hok;have hbl:=(Below.refl X.heap.size X).alloc (Nat.le_refl _) (.cells #[D J x.f,D J x.n,G x.b] 174);have js:Blk (X.alloc (.cells #[D J x.f,D J x.n,G x.b] 174)) X.heap.size 174 #[D J x.f,D J x.n,G x.b]:=Blk.new _ _ _;have db:=hW.below hbl;have sU:mb < X.heap.size:=hW.2.1.lt;have ew:g < X.heap.size:=hW.1.lt;have AU:w.heap.size≤X.heap.size:=hW.2.2.size;have hvn:=zGl (l.take i);have hvl:zCN (l.take i)≤20001:=by rw [List.length_take] at hvn;omega
   have dP:=qH hok;have so:=qH hli;have hi1:i+1≤n:=hlt;clear hW hbl jD hxe hli hok hvn;go_upto_region 7 with fail
   clear x0 x1 x2;generalize X.alloc (.cells #[D J x.f,D J x.n,G x.b] 174)=X1 at js db ⊢;generalize X.heap.size=a11 at js sU ew AU ⊢;obtain ⟨x0,x1,x2⟩:=cQ3 js;have hbl:=(Below.refl X1.heap.size X1).alloc (Nat.le_refl _) (.cells #[D J x.f,D J x.n,G x.b] 174);have dj:Blk (X1.alloc (.cells #[D J x.f,D J x.n,G x.b] 174)) X1.heap.size 174 #[D J x.f,D J x.n,G x.b]:=Blk.new _ _ _;have eW:=js.below hbl js.lt;have bp:=db.below hbl;have xz:a11 < X1.heap.size:=js.lt;clear js db hbl;go_upto_region 8 with fail
   clear x0 x1 x2;generalize X1.alloc (.cells #[D J x.f,D J x.n,G x.b] 174)=X2 at dj eW bp ⊢;generalize X1.heap.size=a12 at dj xz ⊢;have x0:X2.cell? ⟨a11,0,U⟩=Z (D J x.f):=(eW.cell 0).trans rfl;go_upto_if 28 with fail
   clear x0;go_cut [9] (fun v9 wv=>v9=D J (zCN (l.take (i+1)):Nat)∧∃V:World,V=wv∧CmpW V w k g mb (l.take (i+1)) ((l.take i).map zEX)∧Blk V a12 174 #[D J (zEX x).f,D J (zEX x).n,G (zEX x).b])
   case first =>
    have hts:=zKW so.out;by_cases hf:0 < x.f
    ·have HK:=qH (show zEX x=⟨x.f,x.n,E⟩ by unfold zEX;rw [if_pos hf]);have zO:=qH (show zCN (l.take (i+1))=zCN (l.take i) by rw [hts];exact zTz hf);obtain ⟨⟨xf,xn,xb⟩,rfl⟩:∃y,x=y:=⟨_,rfl⟩
     simp only at hf eW dj hbd HK ⊢;obtain ⟨q,rfl⟩:∃q:Nat,xf=(q:Int):=⟨xf.toNat,by omega⟩
     have hqk:q < k+2:=by omega
     have e1:=bp.1.cell (zET k (l.take i) hqk);have z1:=bp.1.frozen q;have hcn:=zGk (l.take i) (q:Int);obtain ⟨v,hv⟩:∃v,zHW (l.take i) (q:Int)=v:=⟨_,rfl⟩
     have jB:=bp.1.stored q ((v:Int)+1);rw [←hv,zSr k (l.take i) (b:=⟨(q:Int),xn,xb⟩) hf rfl,←hts,hv] at jB;rw [hv] at e1 hcn;have ox:v≤20001:=by rw [List.length_take] at hcn;omega
     have w1:wrap64 ((v:Int)+1)=(v:Int)+1:=by unfold wrap64;omega
     have i7:(0:Int)≤(q:Int):=by omega
     have i9:(q:Int) < (k:Int)+2:=by omega
     have x0:X2.cell? ⟨a11,0,U⟩=Z (D J (q:Int)):=(eW.cell 0).trans rfl;have be:=dj.far (p:=⟨g,q,U⟩) (show a12≠g by omega) (D J ((v:Int)+1));have BY:=bp.2.1.setCell (p:=⟨g,q,U⟩) (show mb≠g by omega) (D J ((v:Int)+1));have ac:=bp.2.2.setCell (p:=⟨g,q,U⟩) (show w.heap.size≤g by rw [HG.out];exact Nat.le_refl _) (D J ((v:Int)+1));have kf:decide ((0:Int) < (q:Int))=Q:=by simpa using hf
     have Ew:(0:Int) < (q:Int):=hf;have Ex:0 < q:=by omega
     clear hv hf hcn bp eW dj hts hqk hbd;go_upto_region 10 with fail
     clear e1 z1 x0 w1;generalize X2.setCell ⟨g,q,U⟩ (D J ((v:Int)+1))=X3' at jB be BY ac ⊢;have y2:X3'.cell? ⟨a12,2,U⟩=Z (G xb):=(be.cell 2).trans rfl;have yz:=be.frozen 2;have fq:=be.set_ 2 (G E);have pj:=jB.far (p:=⟨a12,2,U⟩) (show g≠a12 by omega) (G E);have wW:=BY.setCell (p:=⟨a12,2,U⟩) (show mb≠a12 by omega) (G E);have aj:=ac.setCell (p:=⟨a12,2,U⟩) (show w.heap.size≤a12 by omega) (G E);have HF:=qH (And.intro (show CmpW (X3'.setCell ⟨a12,2,U⟩ (G E)) w k g mb (l.take (i+1)) ((l.take i).map zEX) from ⟨pj,wW,aj⟩) fq);clear be jB BY ac fq pj wW aj;go_wp2_with fail
     go_meet
     case rel=>exact ⟨by rw [zO.out],_,rfl,HF.out.1,by rw [HK.out];exact HF.out.2⟩
    ·have HK:=qH (show zEX x=x by unfold zEX;rw [if_neg hf]);have zO:=qH (show zCN (l.take (i+1))=zCN (l.take i)+1 by rw [hts];exact zQb hf);have mB:=qH (show zBQ k (l.take (i+1))=zBQ k (l.take i) by rw [hts];exact zQc k _ hf);have HW:=qH bp;have Dv:=qH dj;have kf:decide (0 < x.f)=E:=decide_eq_false hf;obtain ⟨v,hv⟩:∃v,zCN (l.take i)=v:=⟨_,rfl⟩
     rw [hv] at hvl zO ⊢;clear bp eW dj hts hbd hv;go_wp2_with fail
     go_meet
     case rel=>exact ⟨by rw [zO.out];go_num,_,rfl,⟨by rw [mB.out];exact HW.out.1,HW.out.2.1,HW.out.2.2⟩,by rw [HK.out];exact Dv.out⟩
   case rest =>
    clear bp eW dj hvl;obtain ⟨rfl,V,hV,bq,gD⟩:=hcut;subst hV;obtain ⟨y,hy⟩:∃y,zEX x=y:=⟨_,rfl⟩
    have hoky:BiOk y:=by rw [←hy];exact zVe dP.out
    have hlk:=bq.2.1.look hoky;rw [hy] at gD;obtain ⟨y0,y1,y2⟩:=cQ3 gD;have HY:=qH hy;clear gD hy;by_cases hm:y∈(l.take i).map zEX
    ·rw [decide_eq_true hm] at hlk;have hc:=zSA so.out (by rw [HY.out];exact hm);have HF:=qH (show zFG w k l (.returned (.tuple #[H U 0 0,D J 0,G E])) V from .inr ⟨hc,rfl,bq.2.2⟩);clear hm bq hc;go_wp2_with fail
     go_ret3
     exact HF.out
    ·rw [decide_eq_false hm] at hlk;obtain ⟨w9,hpu,uP,aQ⟩:=bq.2.1.push hoky hm;have hts:=zKW so.out;have cv:=bq.1.kept aQ (show Z g≠Z mb by intro e;injection e;omega);have aJ:Below w.heap.size w w9:=bq.2.2.grown aQ bq.2.2.size (fun q hq=>by injection hq with hq;rw [←hq];have:=HG.out;omega)
     have HF:=qH (show CmpW w9 w k g mb (l.take (i+1)) ((l.take (i+1)).map zEX)∧((l.take (i+1)).map zEX).Nodup by
      rw [show (l.take (i+1)).map zEX=(l.take i).map zEX++[y] by rw [hts,List.map_append,List.map_singleton,HY.out]]
      exact ⟨⟨cv,uP,aJ⟩,zOg Dj.out hm⟩)
     clear hm bq uP aQ cv aJ hts hoky;go_wp2_with fail
     go_roundw
     case rel=>exact ⟨i+1,_,rfl,hi1,by go_num,rfl,HF.out.1,qH HF.out.2⟩
     case measure=>simp [intOf];omega
  ·have j1:¬(i:Int) < (n:Int):=by omega
   have hin:l.take i=l:=by rw [List.take_of_length_le (by rw [bj.out];omega)]
   rw [hin] at hW Dj ⊢;have hvn:=zGl l;rw [bj.out] at hvn;obtain ⟨vi,hvi⟩:∃v,zCN l=v:=⟨_,rfl⟩
   rw [hvi] at hvn ⊢;have Ge:=qH hvi;have AU:=hW.2.2.size;clear hin hlt hvi;generalize hXV:X=V at hW AU ⊢;clear hXV;go_wp2_with fail
   go_loopw [47] (fun v47 wv=>∃(j:Nat) (X:World),X=wv∧j≤n∧v47=D J j∧CmpW X w k g mb l (l.map zEX)∧Hid (∀t,t < j→zGH l (ba l t)=E)) (fun v47 _=>n-(intOf v47).toNat)
   case atStart=>exact ⟨0,_,rfl,by omega,rfl,hW,qH (fun t ht=>by omega)⟩
   case round =>
    obtain ⟨j,X,hX,hj,rfl,bp,HS⟩:=hrel;subst hX;by_cases hlt:j < n
    ·have j0:(0:Int)≤(j:Int):=by omega
     have j2:(j:Int) < (n:Int):=by omega
     have jD:=HB.out.below bp.2.2;have hlj:l[j]? = Z (ba l j):=zCK (by rw [bj.out];exact hlt);have hbd:=HL.out _ (List.mem_of_getElem? hlj);obtain ⟨gb,ob,rfl,hgb,⟨x0,x1,x2⟩,hok⟩:=jD.at_ hlt;have HLJ:=qH (List.mem_of_getElem? hlj);obtain ⟨o,ho⟩:∃o,zGH l (ba l j)=o:=⟨_,rfl⟩
     have HO:=qH ho
     have dB:=qH (fun (h:o=E) t (ht:t < j+1)=>(show zGH l (ba l t)=E by
      rcases Nat.decEq t j with e | e
      ·exact HS.out t (by omega)
      ·rw [e,HO.out,h]))
     obtain ⟨⟨xf,xn,xb⟩,hxe⟩:∃x,ba l j=x:=⟨_,rfl⟩
     rw [hxe] at hbd x0 x1 x2 hok ho;simp only at hbd x0 x1 x2;have hbl:=(Below.refl X.heap.size X).alloc (Nat.le_refl _) (.cells #[D J xf,D J xn,G xb] 174);have mc:Blk (X.alloc (.cells #[D J xf,D J xn,G xb] 174)) X.heap.size 174 #[D J xf,D J xn,G xb]:=Blk.new _ _ _;have bq:=bp.below hbl;have lO:=qH (fun (h:o=Q) wx (hx:Below w.heap.size w wx)=>(show zFG w k l (.returned (.tuple #[H U 0 0,D J 0,G E])) wx from .inr ⟨zQv HLJ.out (by rw [HO.out,h]),rfl,hx⟩));clear jD hlj hxe hok hbl bp;go_upto_region 19 with fail
     clear x0 x1 x2;generalize X.alloc (.cells #[D J xf,D J xn,G xb] 174)=X1 at mc bq ⊢;generalize X.heap.size=a14 at mc ⊢;obtain ⟨x0,x1⟩:=cQ2 mc;have sf:=qH (fun q=>bq.below (zAe (Below.refl X1.heap.size X1) q));have te:j+1≤n:=hlt;go_cut [80] (fun v80 wv=>v80=G o∧∃V:World,V=wv∧CmpW V w k g mb l (l.map zEX))
     case first =>
      unfold zGH at ho;simp only at ho;by_cases hf:0 < xf
      ·obtain ⟨q,rfl⟩:∃q:Nat,xf=(q:Int):=⟨xf.toNat,by omega⟩
       have hqk:q < k+2:=by omega
       have e1:=bq.1.cell (zET k l hqk);have hcn:=zGk l (q:Int);obtain ⟨v,hv⟩:∃v,zHW l (q:Int)=v:=⟨_,rfl⟩
       rw [hv] at e1 hcn ho;rw [decide_eq_true hf,show ((q:Int)==0)=E by simp;omega,Bool.true_and,Bool.false_and,Bool.or_false] at ho;have Ew:(0:Int) < (q:Int):=hf;have Ex:0 < q:=by omega
       have kq:((q:Int)==0)=E:=by simp;omega
       have i7:(0:Int)≤(q:Int):=by omega
       have i9:(q:Int) < (k:Int)+2:=by omega
       have dQ:=qH ho;clear bq mc hf hqk hcn hbd ho hv HO HS
       cases o with
       | true =>
        have c1:(v:Int) < xn:=by have:=dQ.out;simpa using this
        clear dQ;go_quiet (fail)
        go_wp2_with fail
        go_meet
        case rel=>exact ⟨rfl,_,rfl,sf.out _⟩
       | false =>
        have c1:¬(v:Int) < xn:=by have:=dQ.out;simpa using this
        clear dQ;go_quiet (fail)
        go_wp2_with fail
        go_meet
        case rel=>exact ⟨rfl,_,rfl,sf.out _⟩
      ·have hf0:xf=0:=by omega
       subst hf0;rw [decide_eq_false hf,Bool.false_and,Bool.false_or,show ((0:Int)==0)=Q from rfl,Bool.true_and,Ge.out] at ho;obtain ⟨h2,uK⟩:∃h,vi / 2=h:=⟨_,rfl⟩
       obtain ⟨m2,da⟩:∃h,vi % 2=h:=⟨_,rfl⟩
       rw [uK,da] at ho;have t1:(vi:Int).tdiv 2=(h2:Int):=by rw [Int.tdiv_eq_ediv_of_nonneg (by omega)];omega
       have t3:(vi:Int).tmod 2=(m2:Int):=by rw [Int.tmod_eq_emod_of_nonneg (by omega)];omega
       have t4:(vi:Int) % 2=(m2:Int):=by omega
       have hh3:h2≤20001:=by omega
       have dQ:=qH ho;have t5:IntKind.i64.wrap (h2:Int)=(h2:Int):=IntWalk.i64_in _ (by omega);clear bq mc hf hbd ho uK da HO HS;by_cases c1:(h2:Int) < xn
       ·obtain rfl:Q=o:=by have:=dQ.out;rw [decide_eq_true c1] at this;simpa using this
        clear dQ;go_quiet (fail)
        go_wp2_with fail
        go_meet
        case rel=>exact ⟨rfl,_,rfl,sf.out _⟩
       ·by_cases c2:m2=0
        ·obtain rfl:E=o:=by have:=dQ.out;rw [decide_eq_false c1,c2] at this;simpa using this
         have c3:((m2:Int) != 0)=E:=by rw [c2];rfl
         subst c2;clear dQ;go_quiet (fail)
         go_wp2_with fail
         go_meet
         case rel=>exact ⟨rfl,_,rfl,sf.out _⟩
        ·obtain rfl:Q=o:=by have:=dQ.out;rw [decide_eq_false c1,show (m2 != 0)=Q by simpa using c2] at this;simpa using this
         have c3:((m2:Int) != 0)=Q:=by simp;omega
         clear dQ c2;go_quiet (fail)
         go_wp2_with fail
         go_meet
         case rel=>exact ⟨rfl,_,rfl,sf.out _⟩
     case rest =>
      clear bq mc x0 x1 sf ho hbd;obtain ⟨rfl,V2,BN,oD⟩:=hcut;subst BN
      cases o with
      | true =>
       have HF:=qH (lO.out rfl V2 oD.2.2);clear oD lO dB HO;go_wp2_with fail
       go_ret3
       exact HF.out
      | false =>
       have HF:=qH (dB.out rfl);clear lO dB HO;go_wp2_with fail
       go_roundw
       case rel=>exact ⟨j+1,_,rfl,te,by go_num,oD,HF⟩
       case measure=>simp [intOf];omega
    ·have j2:¬(j:Int) < (n:Int):=by omega
     have hc:=zSB Dj.out (fun t ht=>HS.out t (by rw [bj.out] at ht;omega));have HF:=qH (show zFG w k l (.returned (.tuple #[H (Z ⟨g,0,U⟩) (k+2) (k+2),D J ((vi:Int) / 2),G Q])) X from .inl ⟨hc,g,by rw [Ge.out,show ((vi / 2:Nat):Int)=(vi:Int) / 2 by omega],bp.1,bp.2.2⟩);have t3:(0:Int)≤(vi:Int):=by omega
     have t4:(vi:Int)≤20001:=by omega
     clear hc bp HS hlt hW;go_wp2_with fail
     (try simp only [Exit.inBlock,Exit.then])
     go_ret3
     exact HF.out
structure Ce where
 L:List Lt
 A:Option Addr
 n:Nat
 c:Nat
def zQw (K:Int) (e:Ce):List Value:=[D J K,H e.A e.n e.c]
structure CodesOwn (w:World) (base:Nat) (K:Int) (A:Option Addr) (n c:Nat) (Es:List Ce):Prop where
 row:Row w base 2 A n c (Es.flatMap (zQw K))
 ok:∀e∈Es,Lets w e.A e.n e.L∧∀k,blk e.A=Z k→k < w.heap.size∧blk A≠Z k
 cap:∀e∈Es,e.n≤e.c
section
variable {w w':World} {base:Nat} {K:Int} {A:Option Addr} {n c:Nat} {Es:List Ce}
theorem CodesOwn.none_ (w:World) (base:Nat) (K:Int):CodesOwn w base K U 0 0 []:=⟨Row.none_ _ _ _,by simp,by simp⟩
theorem CodesOwn.below (h:CodesOwn w base K A n c Es) (hb:Below w.heap.size w w'):CodesOwn w' base K A n c Es :=
 ⟨h.row.below hb,fun e he=>by obtain ⟨h1,h2⟩:=h.ok e he;exact ⟨h1.below hb,fun k hk=>⟨Nat.lt_of_lt_of_le (h2 k hk).1 hb.size,(h2 k hk).2⟩⟩,h.cap⟩
theorem CodesOwn.mono {base':Nat} (h:CodesOwn w base K A n c Es) (hb:base'≤base):CodesOwn w base' K A n c Es:=⟨h.row.mono hb,h.ok,h.cap⟩
theorem Lets.kept {B:Option Addr} {m:Nat} {L:List Lt} {row:Option Nat} (h:Lets w B m L) (hg:w.grownBy w' row) (hne:∀k,blk B=Z k→row≠Z k):Lets w' B m L:=by
 refine ⟨h.1,h.2.1,h.2.2.1,fun h0=>?_⟩;obtain ⟨g,o,e,hb,hc⟩:=h.2.2.2 h0;subst e;refine ⟨g,o,rfl,Nat.lt_of_lt_of_le hb hg.size,fun j x hx=>(hc j x hx).keep fun q hq=>?_⟩;exact World.cell?_of_block (w:=w) (w':=w') (by rw [hq];exact hg.block g hb (fun e=>hne g rfl e.symm))
theorem CodesOwn.push {A':Option Addr} {N c':Nat} (h:CodesOwn w base K A n c Es) (e:Ce) (he:Lets w e.A e.n e.L∧∀k,blk e.A=Z k→k < w.heap.size∧blk A≠Z k) (hcp:e.n≤e.c)
  (hr:Row w' base 2 A' N c' ((Es++[e]).flatMap (zQw K))) (hg:w.grownBy w' (blk A)) (hl:∀k,blk A'=Z k→blk A=Z k∨w.heap.size≤k):CodesOwn w' base K A' N c' (Es++[e]):=by
 have hcap:∀x∈Es++[e],x.n≤x.c:=fun x hx=>by
  rcases List.mem_append.1 hx with h1 | h1
  ·exact h.cap x h1
  ·rw [List.mem_singleton.1 h1];exact hcp
 refine ⟨hr,fun x hx=>?_,hcap⟩;have jp:Lets w x.A x.n x.L∧∀k,blk x.A=Z k→k < w.heap.size∧blk A≠Z k:=by
  rcases List.mem_append.1 hx with h1 | h1
  ·exact h.ok x h1
  ·rw [List.mem_singleton.1 h1];exact he
 obtain ⟨h1,h4⟩:=jp;refine ⟨h1.kept hg (fun k hk=>(h4 k hk).2),fun k hk=>⟨Nat.lt_of_lt_of_le (h4 k hk).1 hg.size,fun e2=>?_⟩⟩;rcases hl k e2 with h5 | h5
 ·exact (h4 k hk).2 h5
 ·have:=(h4 k hk).1;omega
theorem CodesOwn.len (h:CodesOwn w base K A n c Es):Es.length=n:=by
 have:=h.row.len;rw [zDv (zQw K) 2 (fun _=>rfl)] at this;omega
end
theorem zTH:(Tryz.prog.info? 55).map (fun i=>(i.zero,i.size,i.bytes))=Z (Z (.agg #[D J 0,H U 0 0]),2,32):=by kernel_rfl
theorem zQx (K:Int) (A:Option Addr) (n c:Nat) (w:World):(Instr.buildSlice 61 1 #[(0,.agg #[D J K,H A n c])]).run Tryz.prog w=.ok (H (Z ⟨w.heap.size,0,U⟩) 1 1) (w.alloc (.cells #[D J K,H A n c] 55)):=by
 obtain ⟨i0,hi,aT,az,bt⟩:=info_parts zTH;refine run_buildSlice w _ _ 1 _ _ i0 _ Tryz.underlying61 hi aT (by rw [az];omega) (by rw [az];omega) ?_;rw [az]
 kernel_rfl
theorem zWG {w:World} {ops:Array Oper} {rest:List Oper} {o:Oper} {a:Act} {ZS:Exit→Act→World→Prop} (hgd:o.guard=U) (s x:Operand)
  (ho:o.op=.call { callee:=.builtin .append,args:=#[s,x],argTypes:=#[61,61] })
  {base:Nat} {K:Int} {A:Option Addr} {n c:Nat} {Es:List Ce} (hst:Row w base 2 A n c (Es.flatMap (zQw K))) (y:Ce)
  (hs:a.eval s=H A n c) (hx:a.eval x=H (Z ⟨w.heap.size,0,U⟩) 1 1) (N:Nat) (hN:n+1=N) (hn:N≤1000000) (hbase:base≤w.heap.size)
  (h:∀A' c' w',Row w' base 2 A' N c' ((Es++[y]).flatMap (zQw K))→w.grownBy w' (blk A)→(∀k,blk A'=Z k→blk A=Z k∨w.heap.size≤k)→wpList Tryz.prog ops ZS rest (a.put o.dst (H A' N c')) w') :
  wpList Tryz.prog ops ZS (o :: rest) a (w.alloc (.cells #[D J K,H y.A y.n y.c] 55)):=by
 obtain ⟨i0,hi,aT,az,bt⟩:=info_parts zTH;have hbl:=(Below.refl w.heap.size w).alloc (Nat.le_refl _) (.cells #[D J K,H y.A y.n y.c] 55);have bO:=hst.below hbl
 refine zOy hgd s x 61 ho 55 i0 _ 2 32 Tryz.underlying61 hi aT az bt rfl (by decide) bO (Src.new (m:=1) (cs:=zQw K y) rfl)
  (by intro u hu;simp [zQw] at hu;rcases hu with rfl | rfl<;>rfl) hs hx N hN (by unfold maxLen;omega) (by omega) (by simp;omega) ?_
 intro A' c' w' h1 h2 h3 _;refine h A' c' w' (by rw [List.flatMap_append];simpa using h1) ?_ (fun k hk=>?_)
 ·exact zAb (zAv hbl) h2
 ·rcases h3 k hk with e | e
  ·exact .inl e
  ·exact .inr (by simp at e;omega)
noncomputable def zDn (F:List Fg) (S:List UInt8):List Bi:=(zAN 32 S).map (zGY F)
noncomputable def zAT (F:List Fg) (S:List UInt8):List Lt:=zAK (zBQ F.length (zDn F S)) (zDn F S)
noncomputable def crS (F:List Fg) (S:List UInt8):Nat:=zCN (zDn F S) / 2
def zAI (F:List Fg) (re lo:Int) (cr:Nat) (L:List Lt) (m:Nat):List (List Lt):=((List.range m).map fun nu=>zBB cr nu L).filter fun M=>zCc F re lo (F.length:Int) M
theorem zHZ {F:List Fg} {re lo:Int} {cr:Nat} {L:List Lt} {m:Nat} (h:zCc F re lo (F.length:Int) (zBB cr m L)=Q):zAI F re lo cr L (m+1)=zAI F re lo cr L m++[zBB cr m L]:=by
 unfold zAI;rw [List.range_succ,List.map_append,List.filter_append];simp [h]
theorem zIP {F:List Fg} {re lo:Int} {cr:Nat} {L:List Lt} {m:Nat} (h:zCc F re lo (F.length:Int) (zBB cr m L)=E):zAI F re lo cr L (m+1)=zAI F re lo cr L m:=by
 unfold zAI;rw [List.range_succ,List.map_append,List.filter_append];simp [h]
noncomputable def rqR (F:List Fg) (re lo:Int) (S:List UInt8):List (List Lt)×Int :=
 if zAw F re lo S≠0 then ([],zAw F re lo S)
 else if S=zDm then ([[]],0)
 else if zBY (zAN 32 S) then ([],6)
 else if zCQ F (zAN 32 S) then ([],8)
 else if zBJ (zDn F S)=E then ([],3)
 else if 12 < crS F S∨400 < (zAT F S).length then ([],7)
 else if zAI F re lo (crS F S) (zAT F S) (2 ^ crS F S)=[] then ([],3)
 else (zAI F re lo (crS F S) (zAT F S) (2 ^ crS F S),0)
def zJN (w0:World) (K:Int) (Cs:List (List Lt)) (er:Int) (e:Ending) (w':World):Prop :=
 ∃B m d Es,e=.returned (.tuple #[H B m d,D J er])∧List.map (fun x:Ce=>x.L) Es=Cs∧m≤1000000∧CodesOwn w' w0.heap.size K B m d Es∧Below w0.heap.size w0 w'
theorem zNa {F:List Fg} {T:List (List UInt8)} (h1:zBY T=E) (h2:zCQ F T=E):∀x∈T.map (zGY F),0≤x.f∧x.f≤(F.length:Int)∧1≤x.n∧x.n≤999999999:=by
 obtain ⟨ZV,hU,rfl⟩:=zOe h1;obtain ⟨a1,a2,_⟩:=zQr F hU;rw [a2] at h2;rw [a1];intro x hx;obtain ⟨t,ht,rfl⟩:=List.mem_map.1 hx;have hg:zOd F t=E:=by
  rw [List.any_eq_false] at h2;simpa using h2 t ht
 obtain ⟨k1,k2,k3⟩:=hU t ht;obtain ⟨fg,n,b⟩:=t;simp only at k1 k2 k3
 cases fg with
 | none=>simp only [btI];omega
 | some f =>
  simp only [zOd,zBE,decide_eq_false_iff_not] at hg;have:=zDo (f:=f) (L:=F);simp only [btI];rw [if_neg hg];omega
theorem zNb {l:List Bi} (h:zBJ l=Q) {x:Bi} (hx:x∈l) (h0:x.f=0):x.n≤((zCN l / 2:Nat):Int)∧zCN l % 2=0:=by
 unfold zBJ at h;simp only [Bool.and_eq_true,List.all_eq_true,Bool.not_eq_true'] at h;have:=h.2 x hx;unfold zGH at this;rw [h0] at this;simp only [Bool.or_eq_false_iff,Bool.and_eq_false_iff] at this;have h3:=this.2.resolve_left (by simp);simp only [decide_eq_false_iff_not,bne_eq_false_iff_eq] at h3;omega
theorem zQy {M:List Int} {l:List Bi} {i:Nat} (hi:i < (zAK M l).length) (hc:isC (la (zAK M l) i)=Q):∃x∈l,x.f=0∧(la (zAK M l) i).id=x.n:=by
 have hm:la (zAK M l) i∈zAK M l:=by
  unfold la;rw [List.getElem?_eq_getElem hi];exact List.getElem_mem hi
 generalize la (zAK M l) i=y at hm hc ⊢;unfold zAK at hm;obtain ⟨x,hx,hm⟩:=List.mem_flatMap.1 hm;refine ⟨x,hx,?_⟩;unfold zGj at hm;split at hm
 ·rename_i h0;rw [List.mem_singleton.1 hm];exact ⟨h0,rfl⟩
 ·exfalso;split at hm
  ·simp only [List.mem_cons,List.not_mem_nil,or_false] at hm;rcases hm with e | e<;>rw [e] at hc<;>simp [isC] at hc
  ·simp only [List.mem_cons,List.not_mem_nil,or_false] at hm;rcases hm with e | e<;>rw [e] at hc<;>simp [isC] at hc
structure Tk where
 f:Int
 n:Int
 b:Bool
 ok:Bool
def tk0:Tk:=⟨0,0,E,E⟩
noncomputable def rdP (T:List (List UInt8)) (S:List UInt8):Tk :=
 if T.length≠2∨(zAZ S 62||zAZ S 60)=E then tk0
 else ⟨(fnA (xa T 0):Int),zIc (xa T 1),zAZ S 62,decide (0 < fnA (xa T 0))&&decide (0 < zIc (xa T 1))⟩
noncomputable def rdT (S:List UInt8):Tk :=
 if S.length < 2 then tk0
 else if zAZ S 111||zAZ S 117 then ⟨0,zIc S.dropLast,zAZ S 111,decide (0 < zIc S.dropLast)⟩
 else rdP (zAN 46 S.dropLast) S
theorem zKX {S:List UInt8} (h:0 < zIc S):S=Lib.itoa (zIc S)∧1≤zIc S∧zIc S≤999999999:=by
 unfold zIc at h ⊢
 cases e:zAr S with
 | mk v ok =>
  rw [e] at h
  cases ok with
  | true=>exact zCF e
  | false =>
   exfalso;unfold zAr at e;split at e
   ·injection e with _ e;cases e
   ·injection e with e _;subst e;simp at h
theorem zSC {S:List UInt8} (h:0 < fnA S):∃f,zAo f=Q∧zAl f=S:=by
 unfold fnA zDE at h
 cases hp:zGu S with
 | none=>rw [hp] at h;simp at h
 | some f=>exact ⟨f,(zHq hp).1,(zHq hp).2⟩
def tkI (t:It):Tk:=⟨(match t.fg with | some f=>(zAM AL f:Int) | none=>0),t.n,t.b,Q⟩
theorem zQz {n:Int} (h1:1≤n) (h2:n≤999999999):(Lib.itoa n).length≠0:=fun e=>by
 have:=zEn h1 h2;rw [List.length_eq_zero_iff.1 e] at this;simp [zAr] at this
theorem zSD {t:It} (h:okI t):rdT (itW t)=tkI t:=by
 obtain ⟨fg,n,b⟩:=t;obtain ⟨h1,h2,h3⟩:=h;simp only at h1 h2 h3;have hn:=zRZ (n:=n) (by omega) (by omega) h3;have hl:=zQz h2 h3;have hp:0 < n:=by omega
 cases fg with
 | none =>
  simp only [itW,tkI];unfold rdT;rw [if_neg (by rw [List.length_append,List.length_singleton];omega)];simp only [List.dropLast_concat,zBw,hn]
  cases b<;>simp [hp]
 | some f =>
  have hf:=h1 f rfl;have hs:zAN 46 (zAl f++46 :: Lib.itoa n)=[zAl f,Lib.itoa n]:=by rw [zCv (zKQ f),zEl (zIY (by decide))]
  have hi:=zUD hf;have hh:=zMM hf;have hq:0 < zAM AL f:=by omega
  simp only [itW,tkI];unfold rdT;rw [if_neg (by simp only [List.length_append,List.length_cons,List.length_nil];omega)];simp only [List.dropLast_concat,zBw,hs];unfold rdP;simp only [zBw,show xa [zAl f,Lib.itoa n] 0=zAl f from rfl,show xa [zAl f,Lib.itoa n] 1=Lib.itoa n from rfl,hn,hi]
  cases b<;>simp [hp,hq]
theorem zWH {c:UInt8} {X:List UInt8} (h:(zAN c X).length=2):X=xa (zAN c X) 0++c :: xa (zAN c X) 1:=by
 have hj:=zHt c X;obtain ⟨a,b,e⟩:∃a b,zAN c X=[a,b]:=by
  match hs:zAN c X,h with
  | [a,b],_=>exact ⟨a,b,rfl⟩
 rw [e] at hj ⊢;rw [zGO,Lib.join_one] at hj;rw [←hj];simp [xa]
theorem zHa {S:List UInt8} (h:(rdT S).ok=Q):∃t,okI t∧S=itW t:=by
 unfold rdT at h;split at h
 ·cases h
 ·split at h
  ·rename_i hl;simp only [decide_eq_true_eq] at h;obtain ⟨e1,e2,e3⟩:=zKX h;refine ⟨⟨U,zIc S.dropLast,zAZ S 111⟩,⟨fun g hg=>(by cases hg),e2,e3⟩,?_⟩;simp only [itW];rw [←e1];rw [Bool.or_eq_true] at hl;rcases hl with hl | hl
   ·rw [hl,if_pos rfl];exact zCp hl
   ·have hne:zAZ S 111=E:=by
     have:=zCp hl;rw [this,zBw];rfl
    rw [hne];exact zCp hl
  ·unfold rdP at h;split at h
   ·cases h
   ·rename_i hl;simp only [Bool.and_eq_true,decide_eq_true_eq] at h;obtain ⟨k1,k2⟩:=h;have iB:(zAN 46 S.dropLast).length=2:=Decidable.byContradiction fun e=>hl (.inl e)
    have gD:(zAZ S 62||zAZ S 60)=Q:=by
     cases e:(zAZ S 62||zAZ S 60) with
     | true=>rfl
     | false=>exact absurd (.inr e) hl
    obtain ⟨e1,e2,e3⟩:=zKX k2;obtain ⟨f,hf,hn⟩:=zSC k1;have hX:=zWH iB;rw [←hn,e1] at hX;refine ⟨⟨Z f,zIc (xa (zAN 46 S.dropLast) 1),zAZ S 62⟩,⟨fun g hg=>(by injection hg with hg;subst hg;exact hf),e2,e3⟩,?_⟩;simp only [itW];rw [←hX];rw [Bool.or_eq_true] at gD;rcases gD with gD | gD
    ·rw [gD,if_pos rfl];exact zCp gD
    ·have hne:zAZ S 62=E:=by
      have:=zCp gD;rw [this,zBw];rfl
     rw [hne];exact zCp gD
theorem zTI (S:List UInt8):(rdT S).ok = !zIJ S:=by
 cases e:zIJ S with
 | false =>
  obtain ⟨t,ht,rfl⟩:=zKS e;rw [zSD ht];rfl
 | true =>
  cases e2:(rdT S).ok with
  | false=>rfl
  | true =>
   obtain ⟨t,ht,rfl⟩:=zHa e2;rw [(zHY [] ht).2.1] at e;cases e
theorem zVf {t:It} (h:okI t):(tkI t).f=0↔t.fg=U:=by
 obtain ⟨fg,n,b⟩:=t;obtain ⟨h1,_,_⟩:=h
 cases fg with
 | none=>simp [tkI]
 | some f =>
  have:=zMM (h1 f rfl);simp only [tkI];constructor
  ·intro e;omega
  ·intro e;cases e
theorem zXM {f:Fg} (h:zAo f=Q):fa AL (zAM AL f-1)=f∧zAM AL f-1 < AL.length:=by
 have h0:=zMM h;have h1:zAM AL f=(zAM AL f-1)+1:=by omega
 obtain ⟨h2,_⟩:=zHe h1;have h3:=(List.getElem?_eq_some_iff.1 h2).1;refine ⟨?_,h3⟩;have h4:=zKa h3;rw [h2] at h4;exact (Option.some.inj h4).symm
def zEU (x y:Bi):Bool:=x.f==y.f&&x.n==y.n&&(decide (0 < x.f)||x.b==y.b)
def zRt (l:List Bi) (b:Bi):Bool:=(decide (0 < b.f)&&decide ((zHW l b.f:Int) < b.n))||(b.f==0&&decide ((zCN l:Int) < 2*b.n))
theorem zQA {x y:Bi}:zEX x=zEX y↔zEU x y=Q:=by
 obtain ⟨a,b,c⟩:=x;obtain ⟨a',b',c'⟩:=y;unfold zEX zEU;simp only [Bool.and_eq_true,Bool.or_eq_true,beq_iff_eq,decide_eq_true_eq];by_cases h1:0 < a<;>by_cases h2:0 < a'
 ·rw [if_pos h1,if_pos h2];constructor
  ·intro h;injection h with e1 e2 e3;exact ⟨⟨e1,e2⟩,.inl h1⟩
  ·rintro ⟨⟨e1,e2⟩,_⟩;rw [e1,e2]
 ·rw [if_pos h1,if_neg h2];constructor
  ·intro h;injection h with e1 e2 e3;omega
  ·rintro ⟨⟨e1,e2⟩,_⟩;omega
 ·rw [if_neg h1,if_pos h2];constructor
  ·intro h;injection h with e1 e2 e3;omega
  ·rintro ⟨⟨e1,e2⟩,_⟩;omega
 ·rw [if_neg h1,if_neg h2];constructor
  ·intro h;injection h with e1 e2 e3;exact ⟨⟨e1,e2⟩,.inr e3⟩
  ·rintro ⟨⟨e1,e2⟩,e3⟩;rcases e3 with e3 | e3
   ·exact absurd e3 h1
   ·rw [e1,e2,e3]
theorem zHb {l:List Bi} (hf:∀x∈l,0≤x.f) :
  zBJ l=Q↔(∀i,i < l.length→zRt l (ba l i)=E∧∀k,k < i→zEU (ba l i) (ba l k)=E)∧zCN l % 2=0:=by
 have hmem:∀{i},i < l.length→ba l i∈l:=fun h=>List.mem_of_getElem? (zCK h)
 have hget:∀{x},x∈l→∃i,i < l.length∧ba l i=x:=fun h=>by
  obtain ⟨i,hi⟩:=List.getElem?_of_mem h;exact ⟨i,(List.getElem?_eq_some_iff.1 hi).1,zWz hi⟩
 have hnd:(l.map zEX).Nodup↔∀i,i < l.length→∀k,k < i→zEU (ba l i) (ba l k)=E:=by
  rw [List.Nodup,List.pairwise_iff_getElem];constructor
  ·intro h i hi k hk;have h1:=h k i (by rw [List.length_map];omega) (by rw [List.length_map];exact hi) hk;rw [List.getElem_map,List.getElem_map] at h1;have e1:l[k]=ba l k:=by have:=zCK (show k < l.length by omega);rw [List.getElem?_eq_getElem (by omega)] at this;exact Option.some.inj this
   have e2:l[i]=ba l i:=by have:=zCK hi;rw [List.getElem?_eq_getElem hi] at this;exact Option.some.inj this
   rw [e1,e2] at h1
   cases e:zEU (ba l i) (ba l k) with
   | false=>rfl
   | true=>exact absurd (zQA.2 e).symm h1
  ·intro h k i hk hi hki;rw [List.length_map] at hk hi;have e1:l[k]=ba l k:=by have:=zCK hk;rw [List.getElem?_eq_getElem hk] at this;exact Option.some.inj this
   have e2:l[i]=ba l i:=by have:=zCK hi;rw [List.getElem?_eq_getElem hi] at this;exact Option.some.inj this
   rw [List.getElem_map,List.getElem_map,e1,e2];intro e;have:=h i hi k hki;rw [zQA.1 e.symm] at this
   cases this
 have hvis:∀x∈l,x.f=0→0 < zCN l:=fun x hx h0=>by
  unfold zCN;rw [List.countP_pos_iff];exact ⟨x,hx,by rw [h0];rfl⟩
 have hodd:zCN l % 2≠0→∃x∈l,x.f=0:=fun h=>by
  have h1:0 < zCN l:=by omega
  unfold zCN at h1;rw [List.countP_pos_iff] at h1;obtain ⟨x,hx,h2⟩:=h1;have:=hf x hx;exact ⟨x,hx,by simp at h2;omega⟩
 unfold zBJ;rw [Bool.and_eq_true,decide_eq_true_eq,List.all_eq_true,hnd];constructor
 ·rintro ⟨h1,h2⟩;have hev:zCN l % 2=0:=Decidable.byContradiction fun h=>by
   obtain ⟨x,hx,h0⟩:=hodd h;have h3:=h2 x hx;unfold zGH at h3;rw [h0] at h3;simp [h] at h3
  refine ⟨fun i hi=>⟨?_,fun k hk=>h1 i hi k hk⟩,hev⟩;have h3:=h2 _ (hmem hi);unfold zGH at h3;unfold zRt;generalize ba l i=x at h3 ⊢;simp only [Bool.not_eq_true',Bool.or_eq_false_iff,Bool.and_eq_false_iff,decide_eq_false_iff_not,beq_eq_false_iff_ne,bne_eq_false_iff_eq] at h3 ⊢;obtain ⟨h3,h4⟩:=h3;refine ⟨h3,?_⟩;rcases h4 with h4 | ⟨h4,_⟩
  ·exact .inl h4
  ·right;omega
 ·rintro ⟨h1,hev⟩;refine ⟨fun i hi k hk=>(h1 i hi).2 k hk,fun x hx=>?_⟩;obtain ⟨i,hi,rfl⟩:=hget hx;have h3:=(h1 i hi).1;unfold zRt at h3;unfold zGH;generalize ba l i=x at h3 ⊢;simp only [Bool.not_eq_true',Bool.or_eq_false_iff,Bool.and_eq_false_iff,decide_eq_false_iff_not,beq_eq_false_iff_ne,bne_eq_false_iff_eq] at h3 ⊢;obtain ⟨h3,h4⟩:=h3;refine ⟨h3,?_⟩;rcases h4 with h4 | h4
  ·exact .inl h4
  ·right;exact ⟨by omega,hev⟩
theorem zKY {M:List Int}:∀{l:List Bi},(∀x∈l,0≤x.f)→(zAK M l).length+zCN l=2*l.length
 | [],_=>rfl
 | b :: l,h=>by
  have ih:=zKY (M:=M) fun x hx=>h x (List.mem_cons_of_mem _ hx)
  have hb:=h b (List.mem_cons_self ..);have h1:b.f=0→(zGj M b).length=1:=fun h0=>by unfold zGj;rw [if_pos h0];rfl
  have h2:b.f≠0→(zGj M b).length=2:=fun h0=>by unfold zGj;rw [if_neg h0];split<;>rfl
  unfold zAK zCN at ih ⊢;rw [List.flatMap_cons,List.length_append,List.countP_cons,List.length_cons];by_cases h0:b.f=0
  ·rw [h1 h0,if_pos (by rw [h0];rfl)];omega
  ·rw [h2 h0,if_neg (by simp;omega)];omega
def sgD (cr nu i:Nat):Int:=if (nu >>> (cr-1-i)) % 2=1 then 1 else -1
def zRu (cr nu:Nat):List Int:=(List.range cr).map (sgD cr nu)
theorem zJO {cr nu i:Nat} (h:i < cr):(zRu cr nu)[i]? = Z (sgD cr nu i):=by
 unfold zRu;rw [List.getElem?_map,List.getElem?_range h];rfl
def ldL (M:List Int) (cr nu:Nat) (b:Bi):List Lt :=
 if b.f=0 then [⟨2,0,0,b.n,sgD cr nu (b.n-1).toNat,b.b⟩]
 else if b.b then [⟨1,b.f-1,ia M (b.f-1)+b.n,0,0,E⟩,⟨1,b.f,ia M b.f-b.n+1,0,0,E⟩]
 else [⟨1,b.f,ia M b.f-b.n+1,0,0,E⟩,⟨1,b.f-1,ia M (b.f-1)+b.n,0,0,E⟩]
def zGI (M:List Int) (cr nu:Nat) (l:List Bi) (i:Nat):List Lt:=(l.take i).flatMap (ldL M cr nu)
theorem zQB {M:List Int} {cr nu:Nat} {l:List Bi} {i:Nat} (h:i < l.length):zGI M cr nu l (i+1)=zGI M cr nu l i++ldL M cr nu (ba l i):=by
 unfold zGI;rw [List.take_add_one,zCK h];simp
theorem zQC {M:List Int} {cr nu:Nat} {b:Bi} (h:b.f=0→1≤b.n):ldL M cr nu b=zBB cr nu (zGj M b):=by
 unfold ldL zBB zGj;by_cases h0:b.f=0
 ·have:=h h0;rw [if_pos h0,if_pos h0];simp only [List.map_cons,List.map_nil];unfold sgL;rw [if_pos (by rfl)];unfold sgI sgD;simp only;rw [show cr-1-(b.n-1).toNat=cr-b.n.toNat by omega]
 ·rw [if_neg h0,if_neg h0];split<;>rfl
theorem zSE {M:List Int} {cr nu:Nat} {l:List Bi} (h:∀x∈l,x.f=0→1≤x.n):zGI M cr nu l l.length=zBB cr nu (zAK M l):=by
 unfold zGI zAK;rw [List.take_length]
 induction l with
 | nil=>rfl
 | cons b l ih =>
  rw [List.flatMap_cons,List.flatMap_cons,ih fun x hx=>h x (List.mem_cons_of_mem _ hx),zQC (h b (List.mem_cons_self ..))];unfold zBB;rw [List.map_append]
theorem zQD {F:List Fg} {re lo:Int} (hv:frB F re lo=Q) (M:List Lt):zCc F re lo (F.length:Int) M=((zAy (F.length:Int) M==0)&&zCJ M):=by
 unfold zCc;rw [hv];simp
end Go.Proofs.YtlmdfmnbcndhoaaGreatDoor
