/-
  Lemmas, part 36. Conditions: each theorem's own.
-/
import Derived.Test.YtlmdfmnbcndhoaaGreatDoorRi35
namespace Go.Proofs.YtlmdfmnbcndhoaaGreatDoor
open Go.RowKit
def CmpW (X:World) (w:World) (k g mb:Nat) (l:List Bi) (ks:List Bi):Prop :=
 OwnI X w.heap.size g (k+2) (zCu k l)∧Seen X mb ks∧Below w.heap.size w X
theorem CmpW.below {X V w:World} {k g mb:Nat} {l ks:List Bi} (h:CmpW X w k g mb l ks) (hb:Below X.heap.size X V):CmpW V w k g mb l ks :=
 ⟨h.1.below hb h.1.lt,h.2.1.below hb h.2.1.lt,zAa h.2.2 hb h.2.2.size⟩
set_option maxHeartbeats 12800000 in
set_option maxRecDepth 100000 in
theorem zHC (k:Nat) (B:Option Addr) (n d:Nat) (l:List Bi) (w:World) (hB:Bits w B n l) (hk:k≤40) (hn:n≤20001) (hl:∀x∈l,0≤x.f∧x.f≤(k:Int)∧0≤x.n∧x.n≤999999999) :
  Calls Tryz.prog 80 #[.int .i64 (k:Int),.slice B n d] w (zFc w k l):=by
 have HLN:=qH hB.len;have HB:=qH hB;have HL:=qH hl;have hmm:=@run_makeMap Tryz.prog;have w1:wrap64 ((k:Int)+2)=((k+2:Nat):Int):=by unfold wrap64;omega
 clear hl hB;go_enter Tryz.func80,Tryz.ntmps80;go_upto_region 1 with fail
 go_upto_region 2 with (refine zHK rfl _ _ rfl (k+2) _ rfl rfl (by first | rfl | exact w1 | omega) (by omega) (base:=w.heap.size) (Nat.le_refl _) ?_;intro Y hO0 hb0 hs0)
 clear w1;obtain ⟨g,hg⟩:∃g,w.heap.size=g:=⟨_,rfl⟩
 have HG:=qH hg;rw [hg] at hO0 hb0 ⊢;have hOa:OwnI Y w.heap.size g (k+2) (zCu k []):=by rw [zRo];rw [hg];exact hO0
 have hbl:=(Below.refl Y.heap.size Y).alloc (Nat.le_refl _) (.map #[] 0);have hW0:CmpW (Y.alloc (.map #[] 0)) w k g Y.heap.size [] []:=⟨hOa.below hbl hOa.lt,Seen.made _,by have:=hb0.alloc (by have:=hO0.lt;omega) (.map #[] 0);rwa [←hg] at this⟩;have hgm:g < Y.heap.size:=hO0.lt;clear hg hO0 hb0 hs0 hOa hbl;go_upto_region 3 with fail
 generalize Y.alloc (.map #[] 0)=Z at hW0 ⊢;generalize Y.heap.size=mb at hW0 hgm ⊢;clear hmm;go_wp2_with fail
 go_loopw [9,21] (fun v9 v21 wv=>∃(i:Nat) (X:World),X=wv∧i≤n∧v21=.int .i64 i∧v9=.int .i64 (zFD (l.take i):Nat)∧CmpW X w k g mb (l.take i) ((l.take i).map zFS)∧Hid ((l.take i).map zFS).Nodup) (fun _ v21 _=>n-(intOf v21).toNat)
 case atStart=>exact ⟨0,_,rfl,by omega,rfl,by simp [zFD],by simpa using hW0,qH (by simp)⟩
 case round =>
  obtain ⟨i,X,hX,hi,rfl,rfl,hW,HND⟩:=hrel;subst hX;clear hW0;by_cases hlt:i < n
  ·have j0:(0:Int)≤(i:Int):=by omega
   have j1:(i:Int) < (n:Int):=by omega
   have hBx:=HB.out.below hW.2.2;have hli:l[i]? = some (ba l i):=zMh (by rw [HLN.out];exact hlt);have hbd:=HL.out _ (List.mem_of_getElem? hli);obtain ⟨gb,ob,rfl,hgb,⟨x0,x1,x2⟩,hok⟩:=hBx.at_ hlt;obtain ⟨x,hxe⟩:∃x,ba l i=x:=⟨_,rfl⟩
   rw [hxe] at hli hbd x0 x1 x2 hok;have hbl:=(Below.refl X.heap.size X).alloc (Nat.le_refl _) (.cells #[.int .i64 x.f,.int .i64 x.n,.bool x.b] 174);have hl11:Blk (X.alloc (.cells #[.int .i64 x.f,.int .i64 x.n,.bool x.b] 174)) X.heap.size 174 #[.int .i64 x.f,.int .i64 x.n,.bool x.b]:=Blk.new _ _ _;have hW1:=hW.below hbl;have hmX:mb < X.heap.size:=hW.2.1.lt;have hgX:g < X.heap.size:=hW.1.lt;have hwX:w.heap.size≤X.heap.size:=hW.2.2.size;have hvn:=zLp (l.take i);have hvl:zFD (l.take i)≤20001:=by rw [List.length_take] at hvn;omega
   have HOK:=qH hok;have HLI:=qH hli;have hi1:i+1≤n:=hlt;clear hW hbl hBx hxe hli hok hvn;go_upto_region 7 with fail
   clear x0 x1 x2;generalize X.alloc (.cells #[.int .i64 x.f,.int .i64 x.n,.bool x.b] 174)=X1 at hl11 hW1 ⊢;generalize X.heap.size=a11 at hl11 hmX hgX hwX ⊢;obtain ⟨x0,x1,x2⟩:=cQ3 hl11;have hbl:=(Below.refl X1.heap.size X1).alloc (Nat.le_refl _) (.cells #[.int .i64 x.f,.int .i64 x.n,.bool x.b] 174);have hl12:Blk (X1.alloc (.cells #[.int .i64 x.f,.int .i64 x.n,.bool x.b] 174)) X1.heap.size 174 #[.int .i64 x.f,.int .i64 x.n,.bool x.b]:=Blk.new _ _ _;have hl11b:=hl11.below hbl hl11.lt;have hW2:=hW1.below hbl;have h1112:a11 < X1.heap.size:=hl11.lt;clear hl11 hW1 hbl;go_upto_region 8 with fail
   clear x0 x1 x2;generalize X1.alloc (.cells #[.int .i64 x.f,.int .i64 x.n,.bool x.b] 174)=X2 at hl12 hl11b hW2 ⊢;generalize X1.heap.size=a12 at hl12 h1112 ⊢;have x0:X2.cell? ⟨a11,0,none⟩=some (.int .i64 x.f):=(hl11b.cell 0).trans rfl;go_upto_if 28 with fail
   clear x0;go_cut [9] (fun v9 wv=>v9=.int .i64 (zFD (l.take (i+1)):Nat)∧∃V:World,V=wv∧CmpW V w k g mb (l.take (i+1)) ((l.take i).map zFS)∧Blk V a12 174 #[.int .i64 (zFS x).f,.int .i64 (zFS x).n,.bool (zFS x).b])
   case first =>
    have hts:=zKl HLI.out;by_cases hf:0 < x.f
    ·have HK:=qH (show zFS x=⟨x.f,x.n,false⟩ by unfold zFS;rw [if_pos hf]);have HVN:=qH (show zFD (l.take (i+1))=zFD (l.take i) by rw [hts];exact zVt hf);obtain ⟨⟨xf,xn,xb⟩,rfl⟩:∃y,x=y:=⟨_,rfl⟩
     simp only at hf hl11b hl12 hbd HK ⊢;obtain ⟨q,rfl⟩:∃q:Nat,xf=(q:Int):=⟨xf.toNat,by omega⟩
     have hqk:q < k+2:=by omega
     have e1:=hW2.1.cell (zFF k (l.take i) hqk);have z1:=hW2.1.frozen q;have hcn:=zLo (l.take i) (q:Int);obtain ⟨v,hv⟩:∃v,zMj (l.take i) (q:Int)=v:=⟨_,rfl⟩
     have hO3:=hW2.1.stored q ((v:Int)+1);rw [←hv,zRn k (l.take i) (b:=⟨(q:Int),xn,xb⟩) hf rfl,←hts,hv] at hO3;rw [hv] at e1 hcn;have hv2:v≤20001:=by rw [List.length_take] at hcn;omega
     have w1:wrap64 ((v:Int)+1)=(v:Int)+1:=by unfold wrap64;omega
     have i7:(0:Int)≤(q:Int):=by omega
     have i9:(q:Int) < (k:Int)+2:=by omega
     have x0:X2.cell? ⟨a11,0,none⟩=some (.int .i64 (q:Int)):=(hl11b.cell 0).trans rfl;have hk3:=hl12.far (p:=⟨g,q,none⟩) (show a12≠g by omega) (.int .i64 ((v:Int)+1));have hS3:=hW2.2.1.setCell (p:=⟨g,q,none⟩) (show mb≠g by omega) (.int .i64 ((v:Int)+1));have hb3:=hW2.2.2.setCell (p:=⟨g,q,none⟩) (show w.heap.size≤g by rw [HG.out];exact Nat.le_refl _) (.int .i64 ((v:Int)+1));have kf:decide ((0:Int) < (q:Int))=true:=by simpa using hf
     have kq1:(0:Int) < (q:Int):=hf;have kq0:0 < q:=by omega
     clear hv hf hcn hW2 hl11b hl12 hts hqk hbd;go_upto_region 10 with fail
     clear e1 z1 x0 w1;generalize X2.setCell ⟨g,q,none⟩ (.int .i64 ((v:Int)+1))=X3' at hO3 hk3 hS3 hb3 ⊢;have y2:X3'.cell? ⟨a12,2,none⟩=some (.bool xb):=(hk3.cell 2).trans rfl;have yz:=hk3.frozen 2;have hk4:=hk3.set_ 2 (.bool false);have hO4:=hO3.far (p:=⟨a12,2,none⟩) (show g≠a12 by omega) (.bool false);have hS4:=hS3.setCell (p:=⟨a12,2,none⟩) (show mb≠a12 by omega) (.bool false);have hb4:=hb3.setCell (p:=⟨a12,2,none⟩) (show w.heap.size≤a12 by omega) (.bool false);have HF:=qH (And.intro (show CmpW (X3'.setCell ⟨a12,2,none⟩ (.bool false)) w k g mb (l.take (i+1)) ((l.take i).map zFS) from ⟨hO4,hS4,hb4⟩) hk4);clear hk3 hO3 hS3 hb3 hk4 hO4 hS4 hb4;go_wp2_with fail
     go_meet
     case rel=>exact ⟨by rw [HVN.out],_,rfl,HF.out.1,by rw [HK.out];exact HF.out.2⟩
    ·have HK:=qH (show zFS x=x by unfold zFS;rw [if_neg hf]);have HVN:=qH (show zFD (l.take (i+1))=zFD (l.take i)+1 by rw [hts];exact zTW hf);have HMS:=qH (show zCu k (l.take (i+1))=zCu k (l.take i) by rw [hts];exact zPl k _ hf);have HW:=qH hW2;have HL12:=qH hl12;have kf:decide (0 < x.f)=false:=decide_eq_false hf;obtain ⟨v,hv⟩:∃v,zFD (l.take i)=v:=⟨_,rfl⟩
     rw [hv] at hvl HVN ⊢;clear hW2 hl11b hl12 hts hbd hv;go_wp2_with fail
     go_meet
     case rel=>exact ⟨by rw [HVN.out];go_num,_,rfl,⟨by rw [HMS.out];exact HW.out.1,HW.out.2.1,HW.out.2.2⟩,by rw [HK.out];exact HL12.out⟩
   case rest =>
    clear hW2 hl11b hl12 hvl;obtain ⟨rfl,V,hV,hW3,hl3⟩:=hcut;subst hV;obtain ⟨y,hy⟩:∃y,zFS x=y:=⟨_,rfl⟩
    have hoky:BiOk y:=by rw [←hy];exact zUf HOK.out
    have hlk:=hW3.2.1.look hoky;rw [hy] at hl3;obtain ⟨y0,y1,y2⟩:=cQ3 hl3;have HY:=qH hy;clear hl3 hy;by_cases hm:y∈(l.take i).map zFS
    ·rw [decide_eq_true hm] at hlk;have hc:=zRx HLI.out (by rw [HY.out];exact hm);have HF:=qH (show zFc w k l (.returned (.tuple #[.slice none 0 0,.int .i64 0,.bool false])) V from .inr ⟨hc,rfl,hW3.2.2⟩);clear hm hW3 hc;go_wp2_with fail
     go_ret3
     exact HF.out
    ·rw [decide_eq_false hm] at hlk;obtain ⟨w9,hpu,hS9,hg9⟩:=hW3.2.1.push hoky hm;have hts:=zKl HLI.out;have hO9:=hW3.1.kept hg9 (show some g≠some mb by intro e;injection e;omega);have hb9:Below w.heap.size w w9:=hW3.2.2.grown hg9 hW3.2.2.size (fun q hq=>by injection hq with hq;rw [←hq];have:=HG.out;omega)
     have HF:=qH (show CmpW w9 w k g mb (l.take (i+1)) ((l.take (i+1)).map zFS)∧((l.take (i+1)).map zFS).Nodup by
      rw [show (l.take (i+1)).map zFS=(l.take i).map zFS++[y] by rw [hts,List.map_append,List.map_singleton,HY.out]]
      exact ⟨⟨hO9,hS9,hb9⟩,zNv HND.out hm⟩)
     clear hm hW3 hS9 hg9 hO9 hb9 hts hoky;go_wp2_with fail
     go_roundw
     case rel=>exact ⟨i+1,_,rfl,hi1,by go_num,rfl,HF.out.1,qH HF.out.2⟩
     case measure=>simp [intOf];omega
  ·have j1:¬(i:Int) < (n:Int):=by omega
   have hin:l.take i=l:=by rw [List.take_of_length_le (by rw [HLN.out];omega)]
   rw [hin] at hW HND ⊢;have hvn:=zLp l;rw [HLN.out] at hvn;obtain ⟨vi,hvi⟩:∃v,zFD l=v:=⟨_,rfl⟩
   rw [hvi] at hvn ⊢;have HVI:=qH hvi;have hwX:=hW.2.2.size;clear hin hlt hvi;generalize hXV:X=V at hW hwX ⊢;clear hXV;go_wp2_with fail
   go_loopw [47] (fun v47 wv=>∃(j:Nat) (X:World),X=wv∧j≤n∧v47=.int .i64 j∧CmpW X w k g mb l (l.map zFS)∧Hid (∀t,t < j→zIZ l (ba l t)=false)) (fun v47 _=>n-(intOf v47).toNat)
   case atStart=>exact ⟨0,_,rfl,by omega,rfl,hW,qH (fun t ht=>by omega)⟩
   case round =>
    obtain ⟨j,X,hX,hj,rfl,hW2,HS⟩:=hrel;subst hX;by_cases hlt:j < n
    ·have j0:(0:Int)≤(j:Int):=by omega
     have j2:(j:Int) < (n:Int):=by omega
     have hBx:=HB.out.below hW2.2.2;have hlj:l[j]? = some (ba l j):=zMh (by rw [HLN.out];exact hlt);have hbd:=HL.out _ (List.mem_of_getElem? hlj);obtain ⟨gb,ob,rfl,hgb,⟨x0,x1,x2⟩,hok⟩:=hBx.at_ hlt;have HLJ:=qH (List.mem_of_getElem? hlj);obtain ⟨o,ho⟩:∃o,zIZ l (ba l j)=o:=⟨_,rfl⟩
     have HO:=qH ho
     have HS2:=qH (fun (h:o=false) t (ht:t < j+1)=>(show zIZ l (ba l t)=false by
      rcases Nat.decEq t j with e | e
      ·exact HS.out t (by omega)
      ·rw [e,HO.out,h]))
     obtain ⟨⟨xf,xn,xb⟩,hxe⟩:∃x,ba l j=x:=⟨_,rfl⟩
     rw [hxe] at hbd x0 x1 x2 hok ho;simp only at hbd x0 x1 x2;have hbl:=(Below.refl X.heap.size X).alloc (Nat.le_refl _) (.cells #[.int .i64 xf,.int .i64 xn,.bool xb] 174);have hl14:Blk (X.alloc (.cells #[.int .i64 xf,.int .i64 xn,.bool xb] 174)) X.heap.size 174 #[.int .i64 xf,.int .i64 xn,.bool xb]:=Blk.new _ _ _;have hW3:=hW2.below hbl;have HFB:=qH (fun (h:o=true) wx (hx:Below w.heap.size w wx)=>(show zFc w k l (.returned (.tuple #[.slice none 0 0,.int .i64 0,.bool false])) wx from .inr ⟨zPF HLJ.out (by rw [HO.out,h]),rfl,hx⟩));clear hBx hlj hxe hok hbl hW2;go_upto_region 19 with fail
     clear x0 x1 x2;generalize X.alloc (.cells #[.int .i64 xf,.int .i64 xn,.bool xb] 174)=X1 at hl14 hW3 ⊢;generalize X.heap.size=a14 at hl14 ⊢;obtain ⟨x0,x1⟩:=cQ2 hl14;have HW3:=qH (fun q=>hW3.below (zAf (Below.refl X1.heap.size X1) q));have hj8:j+1≤n:=hlt;go_cut [80] (fun v80 wv=>v80=.bool o∧∃V:World,V=wv∧CmpW V w k g mb l (l.map zFS))
     case first =>
      unfold zIZ at ho;simp only at ho;by_cases hf:0 < xf
      ·obtain ⟨q,rfl⟩:∃q:Nat,xf=(q:Int):=⟨xf.toNat,by omega⟩
       have hqk:q < k+2:=by omega
       have e1:=hW3.1.cell (zFF k l hqk);have hcn:=zLo l (q:Int);obtain ⟨v,hv⟩:∃v,zMj l (q:Int)=v:=⟨_,rfl⟩
       rw [hv] at e1 hcn ho;rw [decide_eq_true hf,show ((q:Int)==0)=false by simp;omega,Bool.true_and,Bool.false_and,Bool.or_false] at ho;have kq1:(0:Int) < (q:Int):=hf;have kq0:0 < q:=by omega
       have kq:((q:Int)==0)=false:=by simp;omega
       have i7:(0:Int)≤(q:Int):=by omega
       have i9:(q:Int) < (k:Int)+2:=by omega
       have HO2:=qH ho;clear hW3 hl14 hf hqk hcn hbd ho hv HO HS
       cases o with
       | true =>
        have c1:(v:Int) < xn:=by have:=HO2.out;simpa using this
        clear HO2;go_quiet (fail)
        go_wp2_with fail
        go_meet
        case rel=>exact ⟨rfl,_,rfl,HW3.out _⟩
       | false =>
        have c1:¬(v:Int) < xn:=by have:=HO2.out;simpa using this
        clear HO2;go_quiet (fail)
        go_wp2_with fail
        go_meet
        case rel=>exact ⟨rfl,_,rfl,HW3.out _⟩
      ·have hf0:xf=0:=by omega
       subst hf0;rw [decide_eq_false hf,Bool.false_and,Bool.false_or,show ((0:Int)==0)=true from rfl,Bool.true_and,HVI.out] at ho;obtain ⟨h2,hh2⟩:∃h,vi / 2=h:=⟨_,rfl⟩
       obtain ⟨m2,hm2⟩:∃h,vi % 2=h:=⟨_,rfl⟩
       rw [hh2,hm2] at ho;have t1:(vi:Int).tdiv 2=(h2:Int):=by rw [Int.tdiv_eq_ediv_of_nonneg (by omega)];omega
       have t3:(vi:Int).tmod 2=(m2:Int):=by rw [Int.tmod_eq_emod_of_nonneg (by omega)];omega
       have t4:(vi:Int) % 2=(m2:Int):=by omega
       have hh3:h2≤20001:=by omega
       have HO2:=qH ho;have t5:IntKind.i64.wrap (h2:Int)=(h2:Int):=IntWalk.i64_in _ (by omega);clear hW3 hl14 hf hbd ho hh2 hm2 HO HS;by_cases c1:(h2:Int) < xn
       ·obtain rfl:true=o:=by have:=HO2.out;rw [decide_eq_true c1] at this;simpa using this
        clear HO2;go_quiet (fail)
        go_wp2_with fail
        go_meet
        case rel=>exact ⟨rfl,_,rfl,HW3.out _⟩
       ·by_cases c2:m2=0
        ·obtain rfl:false=o:=by have:=HO2.out;rw [decide_eq_false c1,c2] at this;simpa using this
         have c3:((m2:Int) != 0)=false:=by rw [c2];rfl
         subst c2;clear HO2;go_quiet (fail)
         go_wp2_with fail
         go_meet
         case rel=>exact ⟨rfl,_,rfl,HW3.out _⟩
        ·obtain rfl:true=o:=by have:=HO2.out;rw [decide_eq_false c1,show (m2 != 0)=true by simpa using c2] at this;simpa using this
         have c3:((m2:Int) != 0)=true:=by simp;omega
         clear HO2 c2;go_quiet (fail)
         go_wp2_with fail
         go_meet
         case rel=>exact ⟨rfl,_,rfl,HW3.out _⟩
     case rest =>
      clear hW3 hl14 x0 x1 HW3 ho hbd;obtain ⟨rfl,V2,hV2,hW4⟩:=hcut;subst hV2
      cases o with
      | true =>
       have HF:=qH (HFB.out rfl V2 hW4.2.2);clear hW4 HFB HS2 HO;go_wp2_with fail
       go_ret3
       exact HF.out
      | false =>
       have HF:=qH (HS2.out rfl);clear HFB HS2 HO;go_wp2_with fail
       go_roundw
       case rel=>exact ⟨j+1,_,rfl,hj8,by go_num,hW4,HF⟩
       case measure=>simp [intOf];omega
    ·have j2:¬(j:Int) < (n:Int):=by omega
     have hc:=zRy HND.out (fun t ht=>HS.out t (by rw [HLN.out] at ht;omega));have HF:=qH (show zFc w k l (.returned (.tuple #[.slice (some ⟨g,0,none⟩) (k+2) (k+2),.int .i64 ((vi:Int) / 2),.bool true])) X from .inl ⟨hc,g,by rw [HVI.out,show ((vi / 2:Nat):Int)=(vi:Int) / 2 by omega],hW2.1,hW2.2.2⟩);have t3:(0:Int)≤(vi:Int):=by omega
     have t4:(vi:Int)≤20001:=by omega
     clear hc hW2 HS hlt hW;go_wp2_with fail
     (try simp only [Exit.inBlock,Exit.then])
     go_ret3
     exact HF.out
structure Ce where
 L:List Lt
 A:Option Addr
 n:Nat
 c:Nat
def zSD (K:Int) (e:Ce):List Value:=[.int .i64 K,.slice e.A e.n e.c]
structure CodesOwn (w:World) (base:Nat) (K:Int) (A:Option Addr) (n c:Nat) (Es:List Ce):Prop where
 row:Row w base 2 A n c (Es.flatMap (zSD K))
 ok:∀e∈Es,Lets w e.A e.n e.L∧∀k,blk e.A=some k→k < w.heap.size∧blk A≠some k
 cap:∀e∈Es,e.n≤e.c
section
variable {w w':World} {base:Nat} {K:Int} {A:Option Addr} {n c:Nat} {Es:List Ce}
theorem CodesOwn.none_ (w:World) (base:Nat) (K:Int):CodesOwn w base K none 0 0 []:=⟨Row.none_ _ _ _,by simp,by simp⟩
theorem CodesOwn.below (h:CodesOwn w base K A n c Es) (hb:Below w.heap.size w w'):CodesOwn w' base K A n c Es :=
 ⟨h.row.below hb,fun e he=>by obtain ⟨h1,h2⟩:=h.ok e he;exact ⟨h1.below hb,fun k hk=>⟨Nat.lt_of_lt_of_le (h2 k hk).1 hb.size,(h2 k hk).2⟩⟩,h.cap⟩
theorem CodesOwn.mono {base':Nat} (h:CodesOwn w base K A n c Es) (hb:base'≤base):CodesOwn w base' K A n c Es:=⟨h.row.mono hb,h.ok,h.cap⟩
theorem Lets.kept {B:Option Addr} {m:Nat} {L:List Lt} {row:Option Nat} (h:Lets w B m L) (hg:w.grownBy w' row) (hne:∀k,blk B=some k→row≠some k):Lets w' B m L:=by
 refine ⟨h.1,h.2.1,h.2.2.1,fun h0=>?_⟩;obtain ⟨g,o,e,hb,hc⟩:=h.2.2.2 h0;subst e;refine ⟨g,o,rfl,Nat.lt_of_lt_of_le hb hg.size,fun j x hx=>(hc j x hx).keep fun q hq=>?_⟩;exact World.cell?_of_block (w:=w) (w':=w') (by rw [hq];exact hg.block g hb (fun e=>hne g rfl e.symm))
theorem CodesOwn.push {A':Option Addr} {N c':Nat} (h:CodesOwn w base K A n c Es) (e:Ce) (he:Lets w e.A e.n e.L∧∀k,blk e.A=some k→k < w.heap.size∧blk A≠some k) (hcp:e.n≤e.c)
  (hr:Row w' base 2 A' N c' ((Es++[e]).flatMap (zSD K))) (hg:w.grownBy w' (blk A)) (hl:∀k,blk A'=some k→blk A=some k∨w.heap.size≤k):CodesOwn w' base K A' N c' (Es++[e]):=by
 have hcap:∀x∈Es++[e],x.n≤x.c:=fun x hx=>by
  rcases List.mem_append.1 hx with h1 | h1
  ·exact h.cap x h1
  ·rw [List.mem_singleton.1 h1];exact hcp
 refine ⟨hr,fun x hx=>?_,hcap⟩;have hx2:Lets w x.A x.n x.L∧∀k,blk x.A=some k→k < w.heap.size∧blk A≠some k:=by
  rcases List.mem_append.1 hx with h1 | h1
  ·exact h.ok x h1
  ·rw [List.mem_singleton.1 h1];exact he
 obtain ⟨h1,h4⟩:=hx2;refine ⟨h1.kept hg (fun k hk=>(h4 k hk).2),fun k hk=>⟨Nat.lt_of_lt_of_le (h4 k hk).1 hg.size,fun e2=>?_⟩⟩;rcases hl k e2 with h5 | h5
 ·exact (h4 k hk).2 h5
 ·have:=(h4 k hk).1;omega
theorem CodesOwn.len (h:CodesOwn w base K A n c Es):Es.length=n:=by
 have:=h.row.len;rw [zBY (zSD K) 2 (fun _=>rfl)] at this;omega
end
theorem zSE:(Tryz.prog.info? 55).map (fun i=>(i.zero,i.size,i.bytes))=some (some (.agg #[.int .i64 0,.slice none 0 0]),2,32):=by kernel_rfl
theorem zWz (K:Int) (A:Option Addr) (n c:Nat) (w:World):(Instr.buildSlice 61 1 #[(0,.agg #[.int .i64 K,.slice A n c])]).run Tryz.prog w=.ok (.slice (some ⟨w.heap.size,0,none⟩) 1 1) (w.alloc (.cells #[.int .i64 K,.slice A n c] 55)):=by
 obtain ⟨i0,hi,hz0,hz1,hz2⟩:=info_parts zSE;refine run_buildSlice w _ _ 1 _ _ i0 _ Tryz.underlying61 hi hz0 (by rw [hz1];omega) (by rw [hz1];omega) ?_;rw [hz1]
 kernel_rfl
theorem zWA {w:World} {ops:Array Oper} {rest:List Oper} {o:Oper} {a:Act} {Q:Exit→Act→World→Prop} (hgd:o.guard=none) (s x:Operand)
  (ho:o.op=.call { callee:=.builtin .append,args:=#[s,x],argTypes:=#[61,61] })
  {base:Nat} {K:Int} {A:Option Addr} {n c:Nat} {Es:List Ce} (hst:Row w base 2 A n c (Es.flatMap (zSD K))) (y:Ce)
  (hs:a.eval s=.slice A n c) (hx:a.eval x=.slice (some ⟨w.heap.size,0,none⟩) 1 1) (N:Nat) (hN:n+1=N) (hn:N≤1000000) (hbase:base≤w.heap.size)
  (h:∀A' c' w',Row w' base 2 A' N c' ((Es++[y]).flatMap (zSD K))→w.grownBy w' (blk A)→(∀k,blk A'=some k→blk A=some k∨w.heap.size≤k)→wpList Tryz.prog ops Q rest (a.put o.dst (.slice A' N c')) w') :
  wpList Tryz.prog ops Q (o :: rest) a (w.alloc (.cells #[.int .i64 K,.slice y.A y.n y.c] 55)):=by
 obtain ⟨i0,hi,hz0,hz1,hz2⟩:=info_parts zSE;have hbl:=(Below.refl w.heap.size w).alloc (Nat.le_refl _) (.cells #[.int .i64 K,.slice y.A y.n y.c] 55);have hst1:=hst.below hbl
 refine zQk hgd s x 61 ho 55 i0 _ 2 32 Tryz.underlying61 hi hz0 hz1 hz2 rfl (by decide) hst1 (Src.new (m:=1) (cs:=zSD K y) rfl)
  (by intro u hu;simp [zSD] at hu;rcases hu with rfl | rfl<;>rfl) hs hx N hN (by unfold maxLen;omega) (by omega) (by simp;omega) ?_
 intro A' c' w' h1 h2 h3 _;refine h A' c' w' (by rw [List.flatMap_append];simpa using h1) ?_ (fun k hk=>?_)
 ·exact zAb (zAv hbl) h2
 ·rcases h3 k hk with e | e
  ·exact .inl e
  ·exact .inr (by simp at e;omega)
noncomputable def zFU (F:List Fg) (S:List UInt8):List Bi:=(zAH 32 S).map (zMi F)
noncomputable def zBQ (F:List Fg) (S:List UInt8):List Lt:=zAN (zCu F.length (zFU F S)) (zFU F S)
noncomputable def crS (F:List Fg) (S:List UInt8):Nat:=zFD (zFU F S) / 2
def zAY (F:List Fg) (re lo:Int) (cr:Nat) (L:List Lt) (m:Nat):List (List Lt):=((List.range m).map fun nu=>zCB cr nu L).filter fun M=>zCt F re lo (F.length:Int) M
theorem zLx {F:List Fg} {re lo:Int} {cr:Nat} {L:List Lt} {m:Nat} (h:zCt F re lo (F.length:Int) (zCB cr m L)=true):zAY F re lo cr L (m+1)=zAY F re lo cr L m++[zCB cr m L]:=by
 unfold zAY;rw [List.range_succ,List.map_append,List.filter_append];simp [h]
theorem zNw {F:List Fg} {re lo:Int} {cr:Nat} {L:List Lt} {m:Nat} (h:zCt F re lo (F.length:Int) (zCB cr m L)=false):zAY F re lo cr L (m+1)=zAY F re lo cr L m:=by
 unfold zAY;rw [List.range_succ,List.map_append,List.filter_append];simp [h]
noncomputable def rqR (F:List Fg) (re lo:Int) (S:List UInt8):List (List Lt)×Int :=
 if zAA F re lo S≠0 then ([],zAA F re lo S)
 else if S=zJa then ([[]],0)
 else if zEp (zAH 32 S) then ([],6)
 else if zFC F (zAH 32 S) then ([],8)
 else if zFE (zFU F S)=false then ([],3)
 else if 12 < crS F S∨400 < (zBQ F S).length then ([],7)
 else if zAY F re lo (crS F S) (zBQ F S) (2 ^ crS F S)=[] then ([],3)
 else (zAY F re lo (crS F S) (zBQ F S) (2 ^ crS F S),0)
def zRz (w0:World) (K:Int) (Cs:List (List Lt)) (er:Int) (e:Ending) (w':World):Prop :=
 ∃B m d Es,e=.returned (.tuple #[.slice B m d,.int .i64 er])∧List.map (fun x:Ce=>x.L) Es=Cs∧m≤1000000∧CodesOwn w' w0.heap.size K B m d Es∧Below w0.heap.size w0 w'
theorem zRA {F:List Fg} {T:List (List UInt8)} (h1:zEp T=false) (h2:zFC F T=false):∀x∈T.map (zMi F),0≤x.f∧x.f≤(F.length:Int)∧1≤x.n∧x.n≤999999999:=by
 obtain ⟨U,hU,rfl⟩:=zNt h1;obtain ⟨a1,a2,_⟩:=zPA F hU;rw [a2] at h2;rw [a1];intro x hx;obtain ⟨t,ht,rfl⟩:=List.mem_map.1 hx;have hg:zNs F t=false:=by
  rw [List.any_eq_false] at h2;simpa using h2 t ht
 obtain ⟨k1,k2,k3⟩:=hU t ht;obtain ⟨fg,n,b⟩:=t;simp only at k1 k2 k3
 cases fg with
 | none=>simp only [btI];omega
 | some f =>
  simp only [zNs,zAW,decide_eq_false_iff_not] at hg;have:=zDk (f:=f) (L:=F);simp only [btI];rw [if_neg hg];omega
theorem zRB {l:List Bi} (h:zFE l=true) {x:Bi} (hx:x∈l) (h0:x.f=0):x.n≤((zFD l / 2:Nat):Int)∧zFD l % 2=0:=by
 unfold zFE at h;simp only [Bool.and_eq_true,List.all_eq_true,Bool.not_eq_true'] at h;have:=h.2 x hx;unfold zIZ at this;rw [h0] at this;simp only [Bool.or_eq_false_iff,Bool.and_eq_false_iff] at this;have h3:=this.2.resolve_left (by simp);simp only [decide_eq_false_iff_not,bne_eq_false_iff_eq] at h3;omega
theorem zPG {M:List Int} {l:List Bi} {i:Nat} (hi:i < (zAN M l).length) (hc:isC (la (zAN M l) i)=true):∃x∈l,x.f=0∧(la (zAN M l) i).id=x.n:=by
 have hm:la (zAN M l) i∈zAN M l:=by
  unfold la;rw [List.getElem?_eq_getElem hi];exact List.getElem_mem hi
 generalize la (zAN M l) i=y at hm hc ⊢;unfold zAN at hm;obtain ⟨x,hx,hm⟩:=List.mem_flatMap.1 hm;refine ⟨x,hx,?_⟩;unfold zLn at hm;split at hm
 ·rename_i h0;rw [List.mem_singleton.1 hm];exact ⟨h0,rfl⟩
 ·exfalso;split at hm
  ·simp only [List.mem_cons,List.not_mem_nil,or_false] at hm;rcases hm with e | e<;>rw [e] at hc<;>simp [isC] at hc
  ·simp only [List.mem_cons,List.not_mem_nil,or_false] at hm;rcases hm with e | e<;>rw [e] at hc<;>simp [isC] at hc
end Go.Proofs.YtlmdfmnbcndhoaaGreatDoor
