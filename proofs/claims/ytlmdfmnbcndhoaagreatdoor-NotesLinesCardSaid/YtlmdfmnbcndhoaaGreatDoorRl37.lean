/-
  Lemmas, part 37. Conditions: each theorem's own.
-/
import Derived.Test.YtlmdfmnbcndhoaaGreatDoorRl36
namespace Go.Proofs.YtlmdfmnbcndhoaaGreatDoor
open Go.RowKit
def CmpW (X:World) (w:World) (k g mb:Nat) (l:List Bi) (ks:List Bi):Prop :=
 OwnI X w.heap.size g (k+2) (zCt k l)∧Seen X mb ks∧Below w.heap.size w X
theorem CmpW.below {X V w:World} {k g mb:Nat} {l ks:List Bi} (h:CmpW X w k g mb l ks) (hb:Below X.heap.size X V):CmpW V w k g mb l ks :=
 ⟨h.1.below hb h.1.lt,h.2.1.below hb h.2.1.lt,zAa h.2.2 hb h.2.2.size⟩
set_option maxHeartbeats 12800000 in
set_option maxRecDepth 100000 in
theorem zHO (k:Nat) (B:Option Addr) (n d:Nat) (l:List Bi) (w:World) (hB:Bits w B n l) (hk:k≤40) (hn:n≤20001) (hl:∀x∈l,0≤x.f∧x.f≤(k:Int)∧0≤x.n∧x.n≤999999999) :
  Calls Tryz.prog 80 #[.int .i64 (k:Int),.slice B n d] w (zFi w k l):=by
 have aR:=qH hB.len;have HB:=qH hB;have HL:=qH hl;have hmm:=@run_makeMap Tryz.prog;have w1:wrap64 ((k:Int)+2)=((k+2:Nat):Int):=by unfold wrap64;omega
 clear hl hB;go_enter Tryz.func80,Tryz.ntmps80;go_upto_region 1 with fail
 go_upto_region 2 with (refine zHV rfl _ _ rfl (k+2) _ rfl rfl (by first | rfl | exact w1 | omega) (by omega) (base:=w.heap.size) (Nat.le_refl _) ?_;intro Y pE ah tM)
 clear w1;obtain ⟨g,hg⟩:∃g,w.heap.size=g:=⟨_,rfl⟩
 have HG:=qH hg;rw [hg] at pE ah ⊢;have Cq:OwnI Y w.heap.size g (k+2) (zCt k []):=by rw [zRR];rw [hg];exact pE
 have hbl:=(Below.refl Y.heap.size Y).alloc (Nat.le_refl _) (.map #[] 0);have ce:CmpW (Y.alloc (.map #[] 0)) w k g Y.heap.size [] []:=⟨Cq.below hbl Cq.lt,Seen.made _,by have:=ah.alloc (by have:=pE.lt;omega) (.map #[] 0);rwa [←hg] at this⟩;have hgm:g < Y.heap.size:=pE.lt;clear hg pE ah tM Cq hbl;go_upto_region 3 with fail
 generalize Y.alloc (.map #[] 0)=Z at ce ⊢;generalize Y.heap.size=mb at ce hgm ⊢;clear hmm;go_wp2_with fail
 go_loopw [9,21] (fun v9 v21 wv=>∃(i:Nat) (X:World),X=wv∧i≤n∧v21=.int .i64 i∧v9=.int .i64 (zFQ (l.take i):Nat)∧CmpW X w k g mb (l.take i) ((l.take i).map zGg)∧Hid ((l.take i).map zGg).Nodup) (fun _ v21 _=>n-(intOf v21).toNat)
 case atStart=>exact ⟨0,_,rfl,by omega,rfl,by simp [zFQ],by simpa using ce,qH (by simp)⟩
 case round =>
  obtain ⟨i,X,hX,hi,rfl,rfl,hW,Dx⟩:=hrel;subst hX;clear ce;by_cases hlt:i < n
  ·have j0:(0:Int)≤(i:Int):=by omega
   have j1:(i:Int) < (n:Int):=by omega
   have nM:=HB.out.below hW.2.2;have hli:l[i]? = some (ba l i):=zMM (by rw [aR.out];exact hlt);have hbd:=HL.out _ (List.mem_of_getElem? hli);obtain ⟨gb,ob,rfl,hgb,⟨x0,x1,x2⟩,hok⟩:=nM.at_ hlt;obtain ⟨x,hxe⟩:∃x,ba l i=x:=⟨_,rfl⟩
   rw [hxe] at hli hbd x0 x1 x2 hok;have hbl:=(Below.refl X.heap.size X).alloc (Nat.le_refl _) (.cells #[.int .i64 x.f,.int .i64 x.n,.bool x.b] 174);have kw:Blk (X.alloc (.cells #[.int .i64 x.f,.int .i64 x.n,.bool x.b] 174)) X.heap.size 174 #[.int .i64 x.f,.int .i64 x.n,.bool x.b]:=Blk.new _ _ _;have cS:=hW.below hbl;have hmX:mb < X.heap.size:=hW.2.1.lt;have fK:g < X.heap.size:=hW.1.lt;have Bw:w.heap.size≤X.heap.size:=hW.2.2.size;have hvn:=zLN (l.take i);have hvl:zFQ (l.take i)≤20001:=by rw [List.length_take] at hvn;omega
   have gw:=qH hok;have Dz:=qH hli;have hi1:i+1≤n:=hlt;clear hW hbl nM hxe hli hok hvn;go_upto_region 7 with fail
   clear x0 x1 x2;generalize X.alloc (.cells #[.int .i64 x.f,.int .i64 x.n,.bool x.b] 174)=X1 at kw cS ⊢;generalize X.heap.size=a11 at kw hmX fK Bw ⊢;obtain ⟨x0,x1,x2⟩:=cQ3 kw;have hbl:=(Below.refl X1.heap.size X1).alloc (Nat.le_refl _) (.cells #[.int .i64 x.f,.int .i64 x.n,.bool x.b] 174);have eq:Blk (X1.alloc (.cells #[.int .i64 x.f,.int .i64 x.n,.bool x.b] 174)) X1.heap.size 174 #[.int .i64 x.f,.int .i64 x.n,.bool x.b]:=Blk.new _ _ _;have gk:=kw.below hbl kw.lt;have cA:=cS.below hbl;have ym:a11 < X1.heap.size:=kw.lt;clear kw cS hbl;go_upto_region 8 with fail
   clear x0 x1 x2;generalize X1.alloc (.cells #[.int .i64 x.f,.int .i64 x.n,.bool x.b] 174)=X2 at eq gk cA ⊢;generalize X1.heap.size=a12 at eq ym ⊢;have x0:X2.cell? ⟨a11,0,none⟩=some (.int .i64 x.f):=(gk.cell 0).trans rfl;go_upto_if 28 with fail
   clear x0;go_cut [9] (fun v9 wv=>v9=.int .i64 (zFQ (l.take (i+1)):Nat)∧∃V:World,V=wv∧CmpW V w k g mb (l.take (i+1)) ((l.take i).map zGg)∧Blk V a12 174 #[.int .i64 (zGg x).f,.int .i64 (zGg x).n,.bool (zGg x).b])
   case first =>
    have hts:=zKD Dz.out;by_cases hf:0 < x.f
    ·have HK:=qH (show zGg x=⟨x.f,x.n,false⟩ by unfold zGg;rw [if_pos hf]);have AC:=qH (show zFQ (l.take (i+1))=zFQ (l.take i) by rw [hts];exact zWd hf);obtain ⟨⟨xf,xn,xb⟩,rfl⟩:∃y,x=y:=⟨_,rfl⟩
     simp only at hf gk eq hbd HK ⊢;obtain ⟨q,rfl⟩:∃q:Nat,xf=(q:Int):=⟨xf.toNat,by omega⟩
     have hqk:q < k+2:=by omega
     have e1:=cA.1.cell (zFS k (l.take i) hqk);have z1:=cA.1.frozen q;have hcn:=zLM (l.take i) (q:Int);obtain ⟨v,hv⟩:∃v,zMO (l.take i) (q:Int)=v:=⟨_,rfl⟩
     have oR:=cA.1.stored q ((v:Int)+1);rw [←hv,zRQ k (l.take i) (b:=⟨(q:Int),xn,xb⟩) hf rfl,←hts,hv] at oR;rw [hv] at e1 hcn;have vF:v≤20001:=by rw [List.length_take] at hcn;omega
     have w1:wrap64 ((v:Int)+1)=(v:Int)+1:=by unfold wrap64;omega
     have i7:(0:Int)≤(q:Int):=by omega
     have i9:(q:Int) < (k:Int)+2:=by omega
     have x0:X2.cell? ⟨a11,0,none⟩=some (.int .i64 (q:Int)):=(gk.cell 0).trans rfl;have cc:=eq.far (p:=⟨g,q,none⟩) (show a12≠g by omega) (.int .i64 ((v:Int)+1));have Cm:=cA.2.1.setCell (p:=⟨g,q,none⟩) (show mb≠g by omega) (.int .i64 ((v:Int)+1));have al:=cA.2.2.setCell (p:=⟨g,q,none⟩) (show w.heap.size≤g by rw [HG.out];exact Nat.le_refl _) (.int .i64 ((v:Int)+1));have kf:decide ((0:Int) < (q:Int))=true:=by simpa using hf
     have kq1:(0:Int) < (q:Int):=hf;have kq0:0 < q:=by omega
     clear hv hf hcn cA gk eq hts hqk hbd;go_upto_region 10 with fail
     clear e1 z1 x0 w1;generalize X2.setCell ⟨g,q,none⟩ (.int .i64 ((v:Int)+1))=X3' at oR cc Cm al ⊢;have y2:X3'.cell? ⟨a12,2,none⟩=some (.bool xb):=(cc.cell 2).trans rfl;have yz:=cc.frozen 2;have io:=cc.set_ 2 (.bool false);have mB:=oR.far (p:=⟨a12,2,none⟩) (show g≠a12 by omega) (.bool false);have xX:=Cm.setCell (p:=⟨a12,2,none⟩) (show mb≠a12 by omega) (.bool false);have aI:=al.setCell (p:=⟨a12,2,none⟩) (show w.heap.size≤a12 by omega) (.bool false);have HF:=qH (And.intro (show CmpW (X3'.setCell ⟨a12,2,none⟩ (.bool false)) w k g mb (l.take (i+1)) ((l.take i).map zGg) from ⟨mB,xX,aI⟩) io);clear cc oR Cm al io mB xX aI;go_wp2_with fail
     go_meet
     case rel=>exact ⟨by rw [AC.out],_,rfl,HF.out.1,by rw [HK.out];exact HF.out.2⟩
    ·have HK:=qH (show zGg x=x by unfold zGg;rw [if_neg hf]);have AC:=qH (show zFQ (l.take (i+1))=zFQ (l.take i)+1 by rw [hts];exact zUI hf);have Dy:=qH (show zCt k (l.take (i+1))=zCt k (l.take i) by rw [hts];exact zPP k _ hf);have HW:=qH cA;have DB:=qH eq;have kf:decide (0 < x.f)=false:=decide_eq_false hf;obtain ⟨v,hv⟩:∃v,zFQ (l.take i)=v:=⟨_,rfl⟩
     rw [hv] at hvl AC ⊢;clear cA gk eq hts hbd hv;go_wp2_with fail
     go_meet
     case rel=>exact ⟨by rw [AC.out];go_num,_,rfl,⟨by rw [Dy.out];exact HW.out.1,HW.out.2.1,HW.out.2.2⟩,by rw [HK.out];exact DB.out⟩
   case rest =>
    clear cA gk eq hvl;obtain ⟨rfl,V,hV,dx,xF⟩:=hcut;subst hV;obtain ⟨y,hy⟩:∃y,zGg x=y:=⟨_,rfl⟩
    have hoky:BiOk y:=by rw [←hy];exact zUR gw.out
    have hlk:=dx.2.1.look hoky;rw [hy] at xF;obtain ⟨y0,y1,y2⟩:=cQ3 xF;have HY:=qH hy;clear xF hy;by_cases hm:y∈(l.take i).map zGg
    ·rw [decide_eq_true hm] at hlk;have hc:=zSa Dz.out (by rw [HY.out];exact hm);have HF:=qH (show zFi w k l (.returned (.tuple #[.slice none 0 0,.int .i64 0,.bool false])) V from .inr ⟨hc,rfl,dx.2.2⟩);clear hm dx hc;go_wp2_with fail
     go_ret3
     exact HF.out
    ·rw [decide_eq_false hm] at hlk;obtain ⟨w9,hpu,EX,cl⟩:=dx.2.1.push hoky hm;have hts:=zKD Dz.out;have fH:=dx.1.kept cl (show some g≠some mb by intro e;injection e;omega);have aS:Below w.heap.size w w9:=dx.2.2.grown cl dx.2.2.size (fun q hq=>by injection hq with hq;rw [←hq];have:=HG.out;omega)
     have HF:=qH (show CmpW w9 w k g mb (l.take (i+1)) ((l.take (i+1)).map zGg)∧((l.take (i+1)).map zGg).Nodup by
      rw [show (l.take (i+1)).map zGg=(l.take i).map zGg++[y] by rw [hts,List.map_append,List.map_singleton,HY.out]]
      exact ⟨⟨fH,EX,aS⟩,zNX Dx.out hm⟩)
     clear hm dx EX cl fH aS hts hoky;go_wp2_with fail
     go_roundw
     case rel=>exact ⟨i+1,_,rfl,hi1,by go_num,rfl,HF.out.1,qH HF.out.2⟩
     case measure=>simp [intOf];omega
  ·have j1:¬(i:Int) < (n:Int):=by omega
   have hin:l.take i=l:=by rw [List.take_of_length_le (by rw [aR.out];omega)]
   rw [hin] at hW Dx ⊢;have hvn:=zLN l;rw [aR.out] at hvn;obtain ⟨vi,hvi⟩:∃v,zFQ l=v:=⟨_,rfl⟩
   rw [hvi] at hvn ⊢;have Gq:=qH hvi;have Bw:=hW.2.2.size;clear hin hlt hvi;generalize hXV:X=V at hW Bw ⊢;clear hXV;go_wp2_with fail
   go_loopw [47] (fun v47 wv=>∃(j:Nat) (X:World),X=wv∧j≤n∧v47=.int .i64 j∧CmpW X w k g mb l (l.map zGg)∧Hid (∀t,t < j→zJn l (ba l t)=false)) (fun v47 _=>n-(intOf v47).toNat)
   case atStart=>exact ⟨0,_,rfl,by omega,rfl,hW,qH (fun t ht=>by omega)⟩
   case round =>
    obtain ⟨j,X,hX,hj,rfl,cA,HS⟩:=hrel;subst hX;by_cases hlt:j < n
    ·have j0:(0:Int)≤(j:Int):=by omega
     have j2:(j:Int) < (n:Int):=by omega
     have nM:=HB.out.below cA.2.2;have hlj:l[j]? = some (ba l j):=zMM (by rw [aR.out];exact hlt);have hbd:=HL.out _ (List.mem_of_getElem? hlj);obtain ⟨gb,ob,rfl,hgb,⟨x0,x1,x2⟩,hok⟩:=nM.at_ hlt;have HLJ:=qH (List.mem_of_getElem? hlj);obtain ⟨o,ho⟩:∃o,zJn l (ba l j)=o:=⟨_,rfl⟩
     have HO:=qH ho
     have fM:=qH (fun (h:o=false) t (ht:t < j+1)=>(show zJn l (ba l t)=false by
      rcases Nat.decEq t j with e | e
      ·exact HS.out t (by omega)
      ·rw [e,HO.out,h]))
     obtain ⟨⟨xf,xn,xb⟩,hxe⟩:∃x,ba l j=x:=⟨_,rfl⟩
     rw [hxe] at hbd x0 x1 x2 hok ho;simp only at hbd x0 x1 x2;have hbl:=(Below.refl X.heap.size X).alloc (Nat.le_refl _) (.cells #[.int .i64 xf,.int .i64 xn,.bool xb] 174);have m8:Blk (X.alloc (.cells #[.int .i64 xf,.int .i64 xn,.bool xb] 174)) X.heap.size 174 #[.int .i64 xf,.int .i64 xn,.bool xb]:=Blk.new _ _ _;have dx:=cA.below hbl;have DI:=qH (fun (h:o=true) wx (hx:Below w.heap.size w wx)=>(show zFi w k l (.returned (.tuple #[.slice none 0 0,.int .i64 0,.bool false])) wx from .inr ⟨zQj HLJ.out (by rw [HO.out,h]),rfl,hx⟩));clear nM hlj hxe hok hbl cA;go_upto_region 19 with fail
     clear x0 x1 x2;generalize X.alloc (.cells #[.int .i64 xf,.int .i64 xn,.bool xb] 174)=X1 at m8 dx ⊢;generalize X.heap.size=a14 at m8 ⊢;obtain ⟨x0,x1⟩:=cQ2 m8;have td:=qH (fun q=>dx.below (zAf (Below.refl X1.heap.size X1) q));have hj8:j+1≤n:=hlt;go_cut [80] (fun v80 wv=>v80=.bool o∧∃V:World,V=wv∧CmpW V w k g mb l (l.map zGg))
     case first =>
      unfold zJn at ho;simp only at ho;by_cases hf:0 < xf
      ·obtain ⟨q,rfl⟩:∃q:Nat,xf=(q:Int):=⟨xf.toNat,by omega⟩
       have hqk:q < k+2:=by omega
       have e1:=dx.1.cell (zFS k l hqk);have hcn:=zLM l (q:Int);obtain ⟨v,hv⟩:∃v,zMO l (q:Int)=v:=⟨_,rfl⟩
       rw [hv] at e1 hcn ho;rw [decide_eq_true hf,show ((q:Int)==0)=false by simp;omega,Bool.true_and,Bool.false_and,Bool.or_false] at ho;have kq1:(0:Int) < (q:Int):=hf;have kq0:0 < q:=by omega
       have kq:((q:Int)==0)=false:=by simp;omega
       have i7:(0:Int)≤(q:Int):=by omega
       have i9:(q:Int) < (k:Int)+2:=by omega
       have pj:=qH ho;clear dx m8 hf hqk hcn hbd ho hv HO HS
       cases o with
       | true =>
        have c1:(v:Int) < xn:=by have:=pj.out;simpa using this
        clear pj;go_quiet (fail)
        go_wp2_with fail
        go_meet
        case rel=>exact ⟨rfl,_,rfl,td.out _⟩
       | false =>
        have c1:¬(v:Int) < xn:=by have:=pj.out;simpa using this
        clear pj;go_quiet (fail)
        go_wp2_with fail
        go_meet
        case rel=>exact ⟨rfl,_,rfl,td.out _⟩
      ·have hf0:xf=0:=by omega
       subst hf0;rw [decide_eq_false hf,Bool.false_and,Bool.false_or,show ((0:Int)==0)=true from rfl,Bool.true_and,Gq.out] at ho;obtain ⟨h2,vL⟩:∃h,vi / 2=h:=⟨_,rfl⟩
       obtain ⟨m2,db⟩:∃h,vi % 2=h:=⟨_,rfl⟩
       rw [vL,db] at ho;have t1:(vi:Int).tdiv 2=(h2:Int):=by rw [Int.tdiv_eq_ediv_of_nonneg (by omega)];omega
       have t3:(vi:Int).tmod 2=(m2:Int):=by rw [Int.tmod_eq_emod_of_nonneg (by omega)];omega
       have t4:(vi:Int) % 2=(m2:Int):=by omega
       have hh3:h2≤20001:=by omega
       have pj:=qH ho;have t5:IntKind.i64.wrap (h2:Int)=(h2:Int):=IntWalk.i64_in _ (by omega);clear dx m8 hf hbd ho vL db HO HS;by_cases c1:(h2:Int) < xn
       ·obtain rfl:true=o:=by have:=pj.out;rw [decide_eq_true c1] at this;simpa using this
        clear pj;go_quiet (fail)
        go_wp2_with fail
        go_meet
        case rel=>exact ⟨rfl,_,rfl,td.out _⟩
       ·by_cases c2:m2=0
        ·obtain rfl:false=o:=by have:=pj.out;rw [decide_eq_false c1,c2] at this;simpa using this
         have c3:((m2:Int) != 0)=false:=by rw [c2];rfl
         subst c2;clear pj;go_quiet (fail)
         go_wp2_with fail
         go_meet
         case rel=>exact ⟨rfl,_,rfl,td.out _⟩
        ·obtain rfl:true=o:=by have:=pj.out;rw [decide_eq_false c1,show (m2 != 0)=true by simpa using c2] at this;simpa using this
         have c3:((m2:Int) != 0)=true:=by simp;omega
         clear pj c2;go_quiet (fail)
         go_wp2_with fail
         go_meet
         case rel=>exact ⟨rfl,_,rfl,td.out _⟩
     case rest =>
      clear dx m8 x0 x1 td ho hbd;obtain ⟨rfl,V2,hV2,pA⟩:=hcut;subst hV2
      cases o with
      | true =>
       have HF:=qH (DI.out rfl V2 pA.2.2);clear pA DI fM HO;go_wp2_with fail
       go_ret3
       exact HF.out
      | false =>
       have HF:=qH (fM.out rfl);clear DI fM HO;go_wp2_with fail
       go_roundw
       case rel=>exact ⟨j+1,_,rfl,hj8,by go_num,pA,HF⟩
       case measure=>simp [intOf];omega
    ·have j2:¬(j:Int) < (n:Int):=by omega
     have hc:=zSb Dx.out (fun t ht=>HS.out t (by rw [aR.out] at ht;omega));have HF:=qH (show zFi w k l (.returned (.tuple #[.slice (some ⟨g,0,none⟩) (k+2) (k+2),.int .i64 ((vi:Int) / 2),.bool true])) X from .inl ⟨hc,g,by rw [Gq.out,show ((vi / 2:Nat):Int)=(vi:Int) / 2 by omega],cA.1,cA.2.2⟩);have t3:(0:Int)≤(vi:Int):=by omega
     have t4:(vi:Int)≤20001:=by omega
     clear hc cA HS hlt hW;go_wp2_with fail
     (try simp only [Exit.inBlock,Exit.then])
     go_ret3
     exact HF.out
structure Ce where
 L:List Lt
 A:Option Addr
 n:Nat
 c:Nat
def zTn (K:Int) (e:Ce):List Value:=[.int .i64 K,.slice e.A e.n e.c]
structure CodesOwn (w:World) (base:Nat) (K:Int) (A:Option Addr) (n c:Nat) (Es:List Ce):Prop where
 row:Row w base 2 A n c (Es.flatMap (zTn K))
 ok:∀e∈Es,Lets w e.A e.n e.L∧∀k,blk e.A=some k→k < w.heap.size∧blk A≠some k
 cap:∀e∈Es,e.n≤e.c
section
variable {w w':World} {base:Nat} {K:Int} {A:Option Addr} {n c:Nat} {Es:List Ce}
theorem CodesOwn.none_ (w:World) (base:Nat) (K:Int):CodesOwn w base K none 0 0 []:=⟨Row.none_ _ _ _,by simp,by simp⟩
theorem CodesOwn.below (h:CodesOwn w base K A n c Es) (hb:Below w.heap.size w w'):CodesOwn w' base K A n c Es :=
 ⟨h.row.below hb,fun e he=>by obtain ⟨h1,h2⟩:=h.ok e he;exact ⟨h1.below hb,fun k hk=>⟨Nat.lt_of_lt_of_le (h2 k hk).1 hb.size,(h2 k hk).2⟩⟩,h.cap⟩
theorem CodesOwn.mono {base':Nat} (h:CodesOwn w base K A n c Es) (hb:base'≤base):CodesOwn w base' K A n c Es:=⟨h.row.mono hb,h.ok,h.cap⟩
theorem Lets.kept {B:Option Addr} {m:Nat} {L:List Lt} {row:Option Nat} (h:Lets w B m L) (hg:w.grownBy w' row) (hne:∀k,blk B=some k→row≠some k):Lets w' B m L:=by
 refine ⟨h.1,h.2.1,h.2.2.1,fun h0=>?_⟩;obtain ⟨g,o,e,hb,hc⟩:=h.2.2.2 h0;subst e;refine ⟨g,o,rfl,Nat.lt_of_lt_of_le hb hg.size,fun j x hx=>(hc j x hx).keep fun q hq=>?_⟩;exact World.cell?_of_block (w:=w) (w':=w') (by rw [hq];exact hg.block g hb (fun e=>hne g rfl e.symm))
theorem CodesOwn.push {A':Option Addr} {N c':Nat} (h:CodesOwn w base K A n c Es) (e:Ce) (he:Lets w e.A e.n e.L∧∀k,blk e.A=some k→k < w.heap.size∧blk A≠some k) (hcp:e.n≤e.c)
  (hr:Row w' base 2 A' N c' ((Es++[e]).flatMap (zTn K))) (hg:w.grownBy w' (blk A)) (hl:∀k,blk A'=some k→blk A=some k∨w.heap.size≤k):CodesOwn w' base K A' N c' (Es++[e]):=by
 have hcap:∀x∈Es++[e],x.n≤x.c:=fun x hx=>by
  rcases List.mem_append.1 hx with h1 | h1
  ·exact h.cap x h1
  ·rw [List.mem_singleton.1 h1];exact hcp
 refine ⟨hr,fun x hx=>?_,hcap⟩;have oE:Lets w x.A x.n x.L∧∀k,blk x.A=some k→k < w.heap.size∧blk A≠some k:=by
  rcases List.mem_append.1 hx with h1 | h1
  ·exact h.ok x h1
  ·rw [List.mem_singleton.1 h1];exact he
 obtain ⟨h1,h4⟩:=oE;refine ⟨h1.kept hg (fun k hk=>(h4 k hk).2),fun k hk=>⟨Nat.lt_of_lt_of_le (h4 k hk).1 hg.size,fun e2=>?_⟩⟩;rcases hl k e2 with h5 | h5
 ·exact (h4 k hk).2 h5
 ·have:=(h4 k hk).1;omega
theorem CodesOwn.len (h:CodesOwn w base K A n c Es):Es.length=n:=by
 have:=h.row.len;rw [zCc (zTn K) 2 (fun _=>rfl)] at this;omega
end
theorem zTo:(Tryz.prog.info? 55).map (fun i=>(i.zero,i.size,i.bytes))=some (some (.agg #[.int .i64 0,.slice none 0 0]),2,32):=by kernel_rfl
theorem zXq (K:Int) (A:Option Addr) (n c:Nat) (w:World):(Instr.buildSlice 61 1 #[(0,.agg #[.int .i64 K,.slice A n c])]).run Tryz.prog w=.ok (.slice (some ⟨w.heap.size,0,none⟩) 1 1) (w.alloc (.cells #[.int .i64 K,.slice A n c] 55)):=by
 obtain ⟨i0,hi,ci,be,cH⟩:=info_parts zTo;refine run_buildSlice w _ _ 1 _ _ i0 _ Tryz.underlying61 hi ci (by rw [be];omega) (by rw [be];omega) ?_;rw [be]
 kernel_rfl
theorem zXr {w:World} {ops:Array Oper} {rest:List Oper} {o:Oper} {a:Act} {Q:Exit→Act→World→Prop} (hgd:o.guard=none) (s x:Operand)
  (ho:o.op=.call { callee:=.builtin .append,args:=#[s,x],argTypes:=#[61,61] })
  {base:Nat} {K:Int} {A:Option Addr} {n c:Nat} {Es:List Ce} (hst:Row w base 2 A n c (Es.flatMap (zTn K))) (y:Ce)
  (hs:a.eval s=.slice A n c) (hx:a.eval x=.slice (some ⟨w.heap.size,0,none⟩) 1 1) (N:Nat) (hN:n+1=N) (hn:N≤1000000) (hbase:base≤w.heap.size)
  (h:∀A' c' w',Row w' base 2 A' N c' ((Es++[y]).flatMap (zTn K))→w.grownBy w' (blk A)→(∀k,blk A'=some k→blk A=some k∨w.heap.size≤k)→wpList Tryz.prog ops Q rest (a.put o.dst (.slice A' N c')) w') :
  wpList Tryz.prog ops Q (o :: rest) a (w.alloc (.cells #[.int .i64 K,.slice y.A y.n y.c] 55)):=by
 obtain ⟨i0,hi,ci,be,cH⟩:=info_parts zTo;have hbl:=(Below.refl w.heap.size w).alloc (Nat.le_refl _) (.cells #[.int .i64 K,.slice y.A y.n y.c] 55);have cE:=hst.below hbl
 refine zQL hgd s x 61 ho 55 i0 _ 2 32 Tryz.underlying61 hi ci be cH rfl (by decide) cE (Src.new (m:=1) (cs:=zTn K y) rfl)
  (by intro u hu;simp [zTn] at hu;rcases hu with rfl | rfl<;>rfl) hs hx N hN (by unfold maxLen;omega) (by omega) (by simp;omega) ?_
 intro A' c' w' h1 h2 h3 _;refine h A' c' w' (by rw [List.flatMap_append];simpa using h1) ?_ (fun k hk=>?_)
 ·exact zAb (zAz hbl) h2
 ·rcases h3 k hk with e | e
  ·exact .inl e
  ·exact .inr (by simp at e;omega)
noncomputable def zGi (F:List Fg) (S:List UInt8):List Bi:=(zAR 32 S).map (zMN F)
noncomputable def zBS (F:List Fg) (S:List UInt8):List Lt:=zAT (zCt F.length (zGi F S)) (zGi F S)
noncomputable def crS (F:List Fg) (S:List UInt8):Nat:=zFQ (zGi F S) / 2
def zAZ (F:List Fg) (re lo:Int) (cr:Nat) (L:List Lt) (m:Nat):List (List Lt):=((List.range m).map fun nu=>zCE cr nu L).filter fun M=>zCs F re lo (F.length:Int) M
theorem zLV {F:List Fg} {re lo:Int} {cr:Nat} {L:List Lt} {m:Nat} (h:zCs F re lo (F.length:Int) (zCE cr m L)=true):zAZ F re lo cr L (m+1)=zAZ F re lo cr L m++[zCE cr m L]:=by
 unfold zAZ;rw [List.range_succ,List.map_append,List.filter_append];simp [h]
theorem zNY {F:List Fg} {re lo:Int} {cr:Nat} {L:List Lt} {m:Nat} (h:zCs F re lo (F.length:Int) (zCE cr m L)=false):zAZ F re lo cr L (m+1)=zAZ F re lo cr L m:=by
 unfold zAZ;rw [List.range_succ,List.map_append,List.filter_append];simp [h]
noncomputable def rqR (F:List Fg) (re lo:Int) (S:List UInt8):List (List Lt)×Int :=
 if zAy F re lo S≠0 then ([],zAy F re lo S)
 else if S=zJo then ([[]],0)
 else if zEq (zAR 32 S) then ([],6)
 else if zFP F (zAR 32 S) then ([],8)
 else if zFR (zGi F S)=false then ([],3)
 else if 12 < crS F S∨400 < (zBS F S).length then ([],7)
 else if zAZ F re lo (crS F S) (zBS F S) (2 ^ crS F S)=[] then ([],3)
 else (zAZ F re lo (crS F S) (zBS F S) (2 ^ crS F S),0)
def zSc (w0:World) (K:Int) (Cs:List (List Lt)) (er:Int) (e:Ending) (w':World):Prop :=
 ∃B m d Es,e=.returned (.tuple #[.slice B m d,.int .i64 er])∧List.map (fun x:Ce=>x.L) Es=Cs∧m≤1000000∧CodesOwn w' w0.heap.size K B m d Es∧Below w0.heap.size w0 w'
theorem zSd {F:List Fg} {T:List (List UInt8)} (h1:zEq T=false) (h2:zFP F T=false):∀x∈T.map (zMN F),0≤x.f∧x.f≤(F.length:Int)∧1≤x.n∧x.n≤999999999:=by
 obtain ⟨U,hU,rfl⟩:=zNV h1;obtain ⟨a1,a2,_⟩:=zQe F hU;rw [a2] at h2;rw [a1];intro x hx;obtain ⟨t,ht,rfl⟩:=List.mem_map.1 hx;have hg:zNU F t=false:=by
  rw [List.any_eq_false] at h2;simpa using h2 t ht
 obtain ⟨k1,k2,k3⟩:=hU t ht;obtain ⟨fg,n,b⟩:=t;simp only at k1 k2 k3
 cases fg with
 | none=>simp only [btI];omega
 | some f =>
  simp only [zNU,zAX,decide_eq_false_iff_not] at hg;have:=zDp (f:=f) (L:=F);simp only [btI];rw [if_neg hg];omega
theorem zSe {l:List Bi} (h:zFR l=true) {x:Bi} (hx:x∈l) (h0:x.f=0):x.n≤((zFQ l / 2:Nat):Int)∧zFQ l % 2=0:=by
 unfold zFR at h;simp only [Bool.and_eq_true,List.all_eq_true,Bool.not_eq_true'] at h;have:=h.2 x hx;unfold zJn at this;rw [h0] at this;simp only [Bool.or_eq_false_iff,Bool.and_eq_false_iff] at this;have h3:=this.2.resolve_left (by simp);simp only [decide_eq_false_iff_not,bne_eq_false_iff_eq] at h3;omega
theorem zQk {M:List Int} {l:List Bi} {i:Nat} (hi:i < (zAT M l).length) (hc:isC (la (zAT M l) i)=true):∃x∈l,x.f=0∧(la (zAT M l) i).id=x.n:=by
 have hm:la (zAT M l) i∈zAT M l:=by
  unfold la;rw [List.getElem?_eq_getElem hi];exact List.getElem_mem hi
 generalize la (zAT M l) i=y at hm hc ⊢;unfold zAT at hm;obtain ⟨x,hx,hm⟩:=List.mem_flatMap.1 hm;refine ⟨x,hx,?_⟩;unfold zLL at hm;split at hm
 ·rename_i h0;rw [List.mem_singleton.1 hm];exact ⟨h0,rfl⟩
 ·exfalso;split at hm
  ·simp only [List.mem_cons,List.not_mem_nil,or_false] at hm;rcases hm with e | e<;>rw [e] at hc<;>simp [isC] at hc
  ·simp only [List.mem_cons,List.not_mem_nil,or_false] at hm;rcases hm with e | e<;>rw [e] at hc<;>simp [isC] at hc
end Go.Proofs.YtlmdfmnbcndhoaaGreatDoor
