/-
  Lemmas. Conditions: each one's own.
-/
import Derived.Test.YtlmdfmnbcndhoaaGreatDoorRt20
open Go.RowKit
set_option maxHeartbeats 12800000
set_option maxRecDepth 100000
open Go renaming World->ZY
open Go.RowKit renaming Below->ZZ
open Go.Value renaming bool->G,int->D,slice->H,string->W
open Go.IntKind renaming i64->J
open Go.Proofs.Tryz renaming prog->ZX
open Nat renaming le_refl->O
open Go.RowKit.Below renaming refl->M
open Option renaming none->U,some->Z
open Bool renaming false->E,true->Q
namespace Go.Proofs.YtlmdfmnbcndhoaaGreatDoor
def CmpW (X:ZY) (w:ZY) (k g mb:Nat) (l:List Bi) (ks:List Bi):Prop :=
 OwnI X w.heap.size g (k+2) (zCI k l)/\Seen X mb ks/\ZZ w.heap.size w X
theorem CmpW.below {X V w:ZY} {k g mb:Nat} {l ks:List Bi} (h:CmpW X w k g mb l ks) (hb:ZZ X.heap.size X V):CmpW V w k g mb l ks :=
 ⟨h.1.below hb h.1.lt,h.2.1.below hb h.2.1.lt,zAa h.2.2 hb h.2.2.size⟩
theorem zIj (k:Nat) (B:Option Addr) (n d:Nat) (l:List Bi) (w:ZY) (hB:Bits w B n l) (hk:k<=40) (hn:n<=20001) (hl:∀x∈l,0<=x.f/\x.f<=(k:Int)/\0<=x.n/\x.n<=999999999) :
  Calls ZX 80 #[D J (k:Int),H B n d] w (zFF w k l):=by
 have bo:=qH hB.len;have HB:=qH hB;have HL:=qH hl;have hmm:=@run_makeMap ZX;have w1:wrap64 ((k:Int)+2)=((k+2:Nat):Int):=by unfold wrap64;omega
 clear hl hB;go_enter Tryz.func80,Tryz.ntmps80;go_upto_region 1 with fail
 go_upto_region 2 with (refine zIs rfl _ _ rfl (k+2) _ rfl rfl (by first | rfl | exact w1 | omega) (by omega) (base:=w.heap.size) (O _) ?_;intro Y nJ ah up)
 clear w1;obtain ⟨g,hg⟩:∃g,w.heap.size=g:=⟨_,rfl⟩
 have HG:=qH hg;rw [hg] at nJ ah ⊢;have CG:OwnI Y w.heap.size g (k+2) (zCI k []):=by rw [zSy];rw [hg];exact nJ
 have hbl:=(M Y.heap.size Y).alloc (O _) (.map #[] 0);have cA:CmpW (Y.alloc (.map #[] 0)) w k g Y.heap.size [] []:=⟨CG.below hbl CG.lt,Seen.made _,by have:=ah.alloc (by have:=nJ.lt;omega) (.map #[] 0);rwa [<-hg] at this⟩;have hgm:g < Y.heap.size:=nJ.lt;clear hg nJ ah up CG hbl;go_upto_region 3 with fail
 generalize Y.alloc (.map #[] 0)=ZR at cA ⊢;generalize Y.heap.size=mb at cA hgm ⊢;clear hmm;go_wp2_with fail
 go_loopw [9,21] (fun v9 v21 wv=>∃(i:Nat) (X:ZY),X=wv/\i<=n/\v21=D J i/\v9=D J (zGf (l.take i):Nat)/\CmpW X w k g mb (l.take i) ((l.take i).map zGx)/\Hid ((l.take i).map zGx).Nodup) (fun _ v21 _=>n-(intOf v21).toNat)
 case atStart=>exact ⟨0,_,rfl,by omega,rfl,by simp [zGf],by simpa using cA,qH (by simp)⟩
 case round =>
  obtain ⟨i,X,hX,hi,rfl,rfl,hW,DL⟩:=hrel;subst hX;clear cA;by_cases hlt:i < n
  ·have j0:(0:Int)<=(i:Int):=by omega
   have j1:(i:Int) < (n:Int):=by omega
   have oj:=HB.out.below hW.2.2;have hli:l[i]? = Z (ba l i):=zNd (by rw [bo.out];exact hlt);have hbd:=HL.out _ (List.mem_of_getElem? hli);obtain ⟨gb,ob,rfl,hgb,⟨x0,x1,x2⟩,hok⟩:=oj.at_ hlt;obtain ⟨x,hxe⟩:∃x,ba l i=x:=⟨_,rfl⟩
   rw [hxe] at hli hbd x0 x1 x2 hok;have hbl:=(M X.heap.size X).alloc (O _) (.cells #[D J x.f,D J x.n,G x.b] 174);have kT:Blk (X.alloc (.cells #[D J x.f,D J x.n,G x.b] 174)) X.heap.size 174 #[D J x.f,D J x.n,G x.b]:=Blk.new _ _ _;have de:=hW.below hbl;have hmX:mb < X.heap.size:=hW.2.1.lt;have fR:g < X.heap.size:=hW.1.lt;have BN:w.heap.size<=X.heap.size:=hW.2.2.size;have hvn:=zMg (l.take i);have hvl:zGf (l.take i)<=20001:=by rw [List.length_take] at hvn;omega
   have fk:=qH hok;have DN:=qH hli;have hi1:i+1<=n:=hlt;clear hW hbl oj hxe hli hok hvn;go_upto_region 7 with fail
   clear x0 x1 x2;generalize X.alloc (.cells #[D J x.f,D J x.n,G x.b] 174)=X1 at kT de ⊢;generalize X.heap.size=a11 at kT hmX fR BN ⊢;obtain ⟨x0,x1,x2⟩:=cQ3 kT;have hbl:=(M X1.heap.size X1).alloc (O _) (.cells #[D J x.f,D J x.n,G x.b] 174);have eq:Blk (X1.alloc (.cells #[D J x.f,D J x.n,G x.b] 174)) X1.heap.size 174 #[D J x.f,D J x.n,G x.b]:=Blk.new _ _ _;have gD:=kT.below hbl kT.lt;have cP:=de.below hbl;have yU:a11 < X1.heap.size:=kT.lt;clear kT de hbl;go_upto_region 8 with fail
   clear x0 x1 x2;generalize X1.alloc (.cells #[D J x.f,D J x.n,G x.b] 174)=X2 at eq gD cP ⊢;generalize X1.heap.size=a12 at eq yU ⊢;have x0:X2.cell? ⟨a11,0,U⟩=Z (D J x.f):=(gD.cell 0).trans rfl;go_upto_if 28 with fail
   clear x0;go_cut [9] (fun v9 wv=>v9=D J (zGf (l.take (i+1)):Nat)/\∃V:ZY,V=wv/\CmpW V w k g mb (l.take (i+1)) ((l.take i).map zGx)/\Blk V a12 174 #[D J (zGx x).f,D J (zGx x).n,G (zGx x).b])
   case first =>
    have hts:=zLa DN.out;by_cases hf:0 < x.f
    ·have HK:=qH (show zGx x=⟨x.f,x.n,E⟩ by unfold zGx;rw [qP hf]);have A6:=qH (show zGf (l.take (i+1))=zGf (l.take i) by rw [hts];exact zXb hf);obtain ⟨⟨xf,xn,xb⟩,rfl⟩:∃y,x=y:=⟨_,rfl⟩
     simp only at hf gD eq hbd HK ⊢;obtain ⟨q,rfl⟩:∃q:Nat,xf=(q:Int):=⟨xf.toNat,by omega⟩
     have hqk:q < k+2:=by omega
     have e1:=cP.1.cell (zGh k (l.take i) hqk);have z1:=cP.1.frozen q;have hcn:=zMf (l.take i) (q:Int);obtain ⟨v,hv⟩:∃v,zNf (l.take i) (q:Int)=v:=⟨_,rfl⟩
     have pk:=cP.1.stored q ((v:Int)+1);rw [<-hv,zSx k (l.take i) (b:=⟨(q:Int),xn,xb⟩) hf rfl,<-hts,hv] at pk;rw [hv] at e1 hcn;have wl:v<=20001:=by rw [List.length_take] at hcn;omega
     have w1:wrap64 ((v:Int)+1)=(v:Int)+1:=by unfold wrap64;omega
     have i7:(0:Int)<=(q:Int):=by omega
     have i9:(q:Int) < (k:Int)+2:=by omega
     have x0:X2.cell? ⟨a11,0,U⟩=Z (D J (q:Int)):=(gD.cell 0).trans rfl;have cu:=eq.far (p:=⟨g,q,U⟩) (show a12≠g by omega) (D J ((v:Int)+1));have CD:=cP.2.1.setCell (p:=⟨g,q,U⟩) (show mb≠g by omega) (D J ((v:Int)+1));have al:=cP.2.2.setCell (p:=⟨g,q,U⟩) (show w.heap.size<=g by rw [HG.out];exact O _) (D J ((v:Int)+1));have kf:decide ((0:Int) < (q:Int))=Q:=by simpa using hf
     have kq1:(0:Int) < (q:Int):=hf;have kq0:0 < q:=by omega
     clear hv hf hcn cP gD eq hts hqk hbd;go_upto_region 10 with fail
     clear e1 z1 x0 w1;generalize X2.setCell ⟨g,q,U⟩ (D J ((v:Int)+1))=X3' at pk cu CD al ⊢;have y2:X3'.cell? ⟨a12,2,U⟩=Z (G xb):=(cu.cell 2).trans rfl;have yz:=cu.frozen 2;have iI:=cu.set_ 2 (G E);have iP:=pk.far (p:=⟨a12,2,U⟩) (show g≠a12 by omega) (G E);have yD:=CD.setCell (p:=⟨a12,2,U⟩) (show mb≠a12 by omega) (G E);have bh:=al.setCell (p:=⟨a12,2,U⟩) (show w.heap.size<=a12 by omega) (G E);have HF:=qH (And.intro (show CmpW (X3'.setCell ⟨a12,2,U⟩ (G E)) w k g mb (l.take (i+1)) ((l.take i).map zGx) from ⟨iP,yD,bh⟩) iI);clear cu pk CD al iI iP yD bh;go_wp2_with fail
     go_meet
     case rel=>exact ⟨by rw [A6.out],_,rfl,HF.out.1,by rw [HK.out];exact HF.out.2⟩
    ·have HK:=qH (show zGx x=x by unfold zGx;rw [qN hf]);have A6:=qH (show zGf (l.take (i+1))=zGf (l.take i)+1 by rw [hts];exact zVv hf);have DM:=qH (show zCI k (l.take (i+1))=zCI k (l.take i) by rw [hts];exact zQu k _ hf);have HW:=qH cP;have DO:=qH eq;have kf:decide (0 < x.f)=E:=decide_eq_false hf;obtain ⟨v,hv⟩:∃v,zGf (l.take i)=v:=⟨_,rfl⟩
     rw [hv] at hvl A6 ⊢;clear cP gD eq hts hbd hv;go_wp2_with fail
     go_meet
     case rel=>exact ⟨by rw [A6.out];go_num,_,rfl,⟨by rw [DM.out];exact HW.out.1,HW.out.2.1,HW.out.2.2⟩,by rw [HK.out];exact DO.out⟩
   case rest =>
    clear cP gD eq hvl;obtain ⟨rfl,V,hV,du,yj⟩:=hcut;subst hV;obtain ⟨y,hy⟩:∃y,zGx x=y:=⟨_,rfl⟩
    have hoky:BiOk y:=by rw [<-hy];exact zVE fk.out
    have hlk:=du.2.1.look hoky;rw [hy] at yj;obtain ⟨y0,y1,y2⟩:=cQ3 yj;have HY:=qH hy;clear yj hy;by_cases hm:y∈(l.take i).map zGx
    ·rw [decide_eq_true hm] at hlk;have hc:=zSH DN.out (by rw [HY.out];exact hm);have HF:=qH (show zFF w k l (.returned (.tuple #[H U 0 0,D J 0,G E])) V from .inr ⟨hc,rfl,du.2.2⟩);clear hm du hc;go_wp2_with fail
     go_ret3
     exact HF.out
    ·rw [decide_eq_false hm] at hlk;obtain ⟨w9,hpu,Fd,b8⟩:=du.2.1.push hoky hm;have hts:=zLa DN.out;have fq:=du.1.kept b8 (show Z g≠Z mb by intro e;injection e;omega);have bn:ZZ w.heap.size w w9:=du.2.2.grown b8 du.2.2.size (fun q hq=>by injection hq with hq;rw [<-hq];have:=HG.out;omega)
     have HF:=qH (show CmpW w9 w k g mb (l.take (i+1)) ((l.take (i+1)).map zGx)/\((l.take (i+1)).map zGx).Nodup by
      rw [show (l.take (i+1)).map zGx=(l.take i).map zGx++[y] by rw [hts,List.map_append,List.map_singleton,HY.out]]
      exact ⟨⟨fq,Fd,bn⟩,zOt DL.out hm⟩)
     clear hm du Fd b8 fq bn hts hoky;go_wp2_with fail
     go_roundw
     case rel=>exact ⟨i+1,_,rfl,hi1,by go_num,rfl,HF.out.1,qH HF.out.2⟩
     case measure=>simp [intOf];omega
  ·have j1:¬(i:Int) < (n:Int):=by omega
   have hin:l.take i=l:=by rw [List.take_of_length_le (by rw [bo.out];omega)]
   rw [hin] at hW DL ⊢;have hvn:=zMg l;rw [bo.out] at hvn;obtain ⟨vi,hvi⟩:∃v,zGf l=v:=⟨_,rfl⟩
   rw [hvi] at hvn ⊢;have Gu:=qH hvi;have BN:=hW.2.2.size;clear hin hlt hvi;generalize hXV:X=V at hW BN ⊢;clear hXV;go_wp2_with fail
   go_loopw [47] (fun v47 wv=>∃(j:Nat) (X:ZY),X=wv/\j<=n/\v47=D J j/\CmpW X w k g mb l (l.map zGx)/\Hid (∀t,t < j->zJJ l (ba l t)=E)) (fun v47 _=>n-(intOf v47).toNat)
   case atStart=>exact ⟨0,_,rfl,by omega,rfl,hW,qH (fun t ht=>by omega)⟩
   case round =>
    obtain ⟨j,X,hX,hj,rfl,cP,HS⟩:=hrel;subst hX;by_cases hlt:j < n
    ·have j0:(0:Int)<=(j:Int):=by omega
     have j2:(j:Int) < (n:Int):=by omega
     have oj:=HB.out.below cP.2.2;have hlj:l[j]? = Z (ba l j):=zNd (by rw [bo.out];exact hlt);have hbd:=HL.out _ (List.mem_of_getElem? hlj);obtain ⟨gb,ob,rfl,hgb,⟨x0,x1,x2⟩,hok⟩:=oj.at_ hlt;have HLJ:=qH (List.mem_of_getElem? hlj);obtain ⟨o,ho⟩:∃o,zJJ l (ba l j)=o:=⟨_,rfl⟩
     have HO:=qH ho
     have ie:=qH (fun (h:o=E) t (ht:t < j+1)=>(show zJJ l (ba l t)=E by
      rcases Nat.decEq t j with e | e
      ·exact HS.out t (by omega)
      ·rw [e,HO.out,h]))
     obtain ⟨⟨xf,xn,xb⟩,hxe⟩:∃x,ba l j=x:=⟨_,rfl⟩
     rw [hxe] at hbd x0 x1 x2 hok ho;simp only at hbd x0 x1 x2;have hbl:=(M X.heap.size X).alloc (O _) (.cells #[D J xf,D J xn,G xb] 174);have nA:Blk (X.alloc (.cells #[D J xf,D J xn,G xb] 174)) X.heap.size 174 #[D J xf,D J xn,G xb]:=Blk.new _ _ _;have du:=cP.below hbl;have DY:=qH (fun (h:o=Q) wx (hx:ZZ w.heap.size w wx)=>(show zFF w k l (.returned (.tuple #[H U 0 0,D J 0,G E])) wx from .inr ⟨zQO HLJ.out (by rw [HO.out,h]),rfl,hx⟩));clear oj hlj hxe hok hbl cP;go_upto_region 19 with fail
     clear x0 x1 x2;generalize X.alloc (.cells #[D J xf,D J xn,G xb] 174)=X1 at nA du ⊢;generalize X.heap.size=a14 at nA ⊢;obtain ⟨x0,x1⟩:=cQ2 nA;have tS:=qH (fun q=>du.below (zAg (M X1.heap.size X1) q));have hj8:j+1<=n:=hlt;go_cut [80] (fun v80 wv=>v80=G o/\∃V:ZY,V=wv/\CmpW V w k g mb l (l.map zGx))
     case first =>
      unfold zJJ at ho;simp only at ho;by_cases hf:0 < xf
      ·obtain ⟨q,rfl⟩:∃q:Nat,xf=(q:Int):=⟨xf.toNat,by omega⟩
       have hqk:q < k+2:=by omega
       have e1:=du.1.cell (zGh k l hqk);have hcn:=zMf l (q:Int);obtain ⟨v,hv⟩:∃v,zNf l (q:Int)=v:=⟨_,rfl⟩
       rw [hv] at e1 hcn ho;rw [decide_eq_true hf,show ((q:Int)==0)=E by simp;omega,Bool.true_and,Bool.false_and,Bool.or_false] at ho;have kq1:(0:Int) < (q:Int):=hf;have kq0:0 < q:=by omega
       have kq:((q:Int)==0)=E:=by simp;omega
       have i7:(0:Int)<=(q:Int):=by omega
       have i9:(q:Int) < (k:Int)+2:=by omega
       have nl:=qH ho;clear du nA hf hqk hcn hbd ho hv HO HS
       cases o with
       | true =>
        have c1:(v:Int) < xn:=by have:=nl.out;simpa using this
        clear nl;go_quiet (fail)
        go_wp2_with fail
        go_meet
        case rel=>exact ⟨rfl,_,rfl,tS.out _⟩
       | false =>
        have c1:¬(v:Int) < xn:=by have:=nl.out;simpa using this
        clear nl;go_quiet (fail)
        go_wp2_with fail
        go_meet
        case rel=>exact ⟨rfl,_,rfl,tS.out _⟩
      ·have hf0:xf=0:=by omega
       subst hf0;rw [decide_eq_false hf,Bool.false_and,Bool.false_or,show ((0:Int)==0)=Q from rfl,Bool.true_and,Gu.out] at ho;obtain ⟨h2,wA⟩:∃h,vi / 2=h:=⟨_,rfl⟩
       obtain ⟨m2,cE⟩:∃h,vi % 2=h:=⟨_,rfl⟩
       rw [wA,cE] at ho;have t1:(vi:Int).tdiv 2=(h2:Int):=by rw [Int.tdiv_eq_ediv_of_nonneg (by omega)];omega
       have t3:(vi:Int).tmod 2=(m2:Int):=by rw [Int.tmod_eq_emod_of_nonneg (by omega)];omega
       have t4:(vi:Int) % 2=(m2:Int):=by omega
       have hh3:h2<=20001:=by omega
       have nl:=qH ho;have t5:IntKind.i64.wrap (h2:Int)=(h2:Int):=IntWalk.i64_in _ (by omega);clear du nA hf hbd ho wA cE HO HS;by_cases c1:(h2:Int) < xn
       ·obtain rfl:Q=o:=by have:=nl.out;rw [decide_eq_true c1] at this;simpa using this
        clear nl;go_quiet (fail)
        go_wp2_with fail
        go_meet
        case rel=>exact ⟨rfl,_,rfl,tS.out _⟩
       ·by_cases c2:m2=0
        ·obtain rfl:E=o:=by have:=nl.out;rw [decide_eq_false c1,c2] at this;simpa using this
         have c3:((m2:Int) != 0)=E:=by rw [c2];rfl
         subst c2;clear nl;go_quiet (fail)
         go_wp2_with fail
         go_meet
         case rel=>exact ⟨rfl,_,rfl,tS.out _⟩
        ·obtain rfl:Q=o:=by have:=nl.out;rw [decide_eq_false c1,show (m2 != 0)=Q by simpa using c2] at this;simpa using this
         have c3:((m2:Int) != 0)=Q:=by simp;omega
         clear nl c2;go_quiet (fail)
         go_wp2_with fail
         go_meet
         case rel=>exact ⟨rfl,_,rfl,tS.out _⟩
     case rest =>
      clear du nA x0 x1 tS ho hbd;obtain ⟨rfl,V2,hV2,p5⟩:=hcut;subst hV2
      cases o with
      | true =>
       have HF:=qH (DY.out rfl V2 p5.2.2);clear p5 DY ie HO;go_wp2_with fail
       go_ret3
       exact HF.out
      | false =>
       have HF:=qH (ie.out rfl);clear DY ie HO;go_wp2_with fail
       go_roundw
       case rel=>exact ⟨j+1,_,rfl,hj8,by go_num,p5,HF⟩
       case measure=>simp [intOf];omega
    ·have j2:¬(j:Int) < (n:Int):=by omega
     have hc:=zSI DL.out (fun t ht=>HS.out t (by rw [bo.out] at ht;omega));have HF:=qH (show zFF w k l (.returned (.tuple #[H (Z ⟨g,0,U⟩) (k+2) (k+2),D J ((vi:Int) / 2),G Q])) X from .inl ⟨hc,g,by rw [Gu.out,show ((vi / 2:Nat):Int)=(vi:Int) / 2 by omega],cP.1,cP.2.2⟩);have t3:(0:Int)<=(vi:Int):=by omega
     have t4:(vi:Int)<=20001:=by omega
     clear hc cP HS hlt hW;go_wp2_with fail
     (try simp only [Exit.inBlock,Exit.then])
     go_ret3
     exact HF.out
structure Ce where
 L:List Lt
 A:Option Addr
 n:Nat
 c:Nat
def zUa (K:Int) (e:Ce):List Value:=[D J K,H e.A e.n e.c]
structure CodesOwn (w:ZY) (base:Nat) (K:Int) (A:Option Addr) (n c:Nat) (Es:List Ce):Prop where
 row:Row w base 2 A n c (Es.flatMap (zUa K))
 ok:∀e∈Es,Lets w e.A e.n e.L/\∀k,blk e.A=Z k->k < w.heap.size/\blk A≠Z k
 cap:∀e∈Es,e.n<=e.c
section
variable {w w':ZY} {base:Nat} {K:Int} {A:Option Addr} {n c:Nat} {Es:List Ce}
theorem CodesOwn.none_ (w:ZY) (base:Nat) (K:Int):CodesOwn w base K U 0 0 []:=⟨Row.none_ _ _ _,by simp,by simp⟩
theorem CodesOwn.below (h:CodesOwn w base K A n c Es) (hb:ZZ w.heap.size w w'):CodesOwn w' base K A n c Es :=
 ⟨h.row.below hb,fun e he=>by obtain ⟨h1,h2⟩:=h.ok e he;exact ⟨h1.below hb,fun k hk=>⟨Nat.lt_of_lt_of_le (h2 k hk).1 hb.size,(h2 k hk).2⟩⟩,h.cap⟩
theorem CodesOwn.mono {base':Nat} (h:CodesOwn w base K A n c Es) (hb:base'<=base):CodesOwn w base' K A n c Es:=⟨h.row.mono hb,h.ok,h.cap⟩
theorem Lets.kept {B:Option Addr} {m:Nat} {L:List Lt} {row:Option Nat} (h:Lets w B m L) (hg:w.grownBy w' row) (hne:∀k,blk B=Z k->row≠Z k):Lets w' B m L:=by
 refine ⟨h.1,h.2.1,h.2.2.1,fun h0=>?_⟩;obtain ⟨g,o,e,hb,hc⟩:=h.2.2.2 h0;subst e;refine ⟨g,o,rfl,Nat.lt_of_lt_of_le hb hg.size,fun j x hx=>(hc j x hx).keep fun q hq=>?_⟩;exact World.cell?_of_block (w:=w) (w':=w') (by rw [hq];exact hg.block g hb (fun e=>hne g rfl e.symm))
theorem CodesOwn.push {A':Option Addr} {N c':Nat} (h:CodesOwn w base K A n c Es) (e:Ce) (he:Lets w e.A e.n e.L/\∀k,blk e.A=Z k->k < w.heap.size/\blk A≠Z k) (hcp:e.n<=e.c)
  (hr:Row w' base 2 A' N c' ((Es++[e]).flatMap (zUa K))) (hg:w.grownBy w' (blk A)) (hl:∀k,blk A'=Z k->blk A=Z k∨w.heap.size<=k):CodesOwn w' base K A' N c' (Es++[e]):=by
 have hcap:∀x∈Es++[e],x.n<=x.c:=fun x hx=>by
  rcases List.mem_append.1 hx with h1 | h1
  ·exact h.cap x h1
  ·rw [List.mem_singleton.1 h1];exact hcp
 refine ⟨hr,fun x hx=>?_,hcap⟩;have oX:Lets w x.A x.n x.L/\∀k,blk x.A=Z k->k < w.heap.size/\blk A≠Z k:=by
  rcases List.mem_append.1 hx with h1 | h1
  ·exact h.ok x h1
  ·rw [List.mem_singleton.1 h1];exact he
 obtain ⟨h1,h4⟩:=oX;refine ⟨h1.kept hg (fun k hk=>(h4 k hk).2),fun k hk=>⟨Nat.lt_of_lt_of_le (h4 k hk).1 hg.size,fun e2=>?_⟩⟩;rcases hl k e2 with h5 | h5
 ·exact (h4 k hk).2 h5
 ·have:=(h4 k hk).1;omega
theorem CodesOwn.len (h:CodesOwn w base K A n c Es):Es.length=n:=by
 have:=h.row.len;rw [zCn (zUa K) 2 (fun _=>rfl)] at this;omega
end
theorem zUb:(Tryz.prog.info? 55).map (fun i=>(i.zero,i.size,i.bytes))=Z (Z (.agg #[D J 0,H U 0 0]),2,32):=by kernel_rfl
theorem zYt (K:Int) (A:Option Addr) (n c:Nat) (w:ZY):(Instr.buildSlice 61 1 #[(0,.agg #[D J K,H A n c])]).run ZX w=.ok (H (Z ⟨w.heap.size,0,U⟩) 1 1) (w.alloc (.cells #[D J K,H A n c] 55)):=by
 obtain ⟨i0,hi,cD,bu,cM⟩:=info_parts zUb;refine run_buildSlice w _ _ 1 _ _ i0 _ Tryz.underlying61 hi cD (by rw [bu];omega) (by rw [bu];omega) ?_;rw [bu]
 kernel_rfl
theorem zYu {w:ZY} {ops:Array Oper} {rest:List Oper} {o:Oper} {a:Act} {ZP:Exit->Act->ZY->Prop} (hgd:o.guard=U) (s x:Operand)
  (ho:o.op=.call { callee:=.builtin .append,args:=#[s,x],argTypes:=#[61,61] })
  {base:Nat} {K:Int} {A:Option Addr} {n c:Nat} {Es:List Ce} (hst:Row w base 2 A n c (Es.flatMap (zUa K))) (y:Ce)
  (hs:a.eval s=H A n c) (hx:a.eval x=H (Z ⟨w.heap.size,0,U⟩) 1 1) (N:Nat) (hN:n+1=N) (hn:N<=1000000) (hbase:base<=w.heap.size)
  (h:∀A' c' w',Row w' base 2 A' N c' ((Es++[y]).flatMap (zUa K))->w.grownBy w' (blk A)->(∀k,blk A'=Z k->blk A=Z k∨w.heap.size<=k)->wpList ZX ops ZP rest (a.put o.dst (H A' N c')) w') :
  wpList ZX ops ZP (o :: rest) a (w.alloc (.cells #[D J K,H y.A y.n y.c] 55)):=by
 obtain ⟨i0,hi,cD,bu,cM⟩:=info_parts zUb;have hbl:=(M w.heap.size w).alloc (O _) (.cells #[D J K,H y.A y.n y.c] 55);have cS:=hst.below hbl
 refine zRt hgd s x 61 ho 55 i0 _ 2 32 Tryz.underlying61 hi cD bu cM rfl (by decide) cS (Src.new (m:=1) (cs:=zUa K y) rfl)
  (by intro u hu;simp [zUa] at hu;rcases hu with rfl | rfl<;>rfl) hs hx N hN (by unfold maxLen;omega) (by omega) (by simp;omega) ?_
 intro A' c' w' h1 h2 h3 _;refine h A' c' w' (by rw [List.flatMap_append];simpa using h1) ?_ (fun k hk=>?_)
 ·exact zAb (zAA hbl) h2
 ·rcases h3 k hk with e | e
  ·exact .inl e
  ·exact .inr (by simp at e;omega)
noncomputable def zGz (F:List Fg) (S:List UInt8):List Bi:=(zAI 32 S).map (zNe F)
noncomputable def zCc (F:List Fg) (S:List UInt8):List Lt:=zAU (zCI F.length (zGz F S)) (zGz F S)
noncomputable def crS (F:List Fg) (S:List UInt8):Nat:=zGf (zGz F S) / 2
def zBe (F:List Fg) (re lo:Int) (cr:Nat) (L:List Lt) (m:Nat):List (List Lt):=((List.range m).map fun nu=>zCR cr nu L).filter fun ZN=>zCH F re lo (F.length:Int) ZN
theorem zMo {F:List Fg} {re lo:Int} {cr:Nat} {L:List Lt} {m:Nat} (h:zCH F re lo (F.length:Int) (zCR cr m L)=Q):zBe F re lo cr L (m+1)=zBe F re lo cr L m++[zCR cr m L]:=by
 unfold zBe;rw [List.range_succ,List.map_append,List.filter_append];simp [h]
theorem zOu {F:List Fg} {re lo:Int} {cr:Nat} {L:List Lt} {m:Nat} (h:zCH F re lo (F.length:Int) (zCR cr m L)=E):zBe F re lo cr L (m+1)=zBe F re lo cr L m:=by
 unfold zBe;rw [List.range_succ,List.map_append,List.filter_append];simp [h]
noncomputable def rqR (F:List Fg) (re lo:Int) (S:List UInt8):List (List Lt)×Int :=
 if zAC F re lo S≠0 then ([],zAC F re lo S)
 else if S=zJK then ([[]],0)
 else if zEQ (zAI 32 S) then ([],6)
 else if zGe F (zAI 32 S) then ([],8)
 else if zGg (zGz F S)=E then ([],3)
 else if 12 < crS F S∨400 < (zCc F S).length then ([],7)
 else if zBe F re lo (crS F S) (zCc F S) (2 ^ crS F S)=[] then ([],3)
 else (zBe F re lo (crS F S) (zCc F S) (2 ^ crS F S),0)
def zSJ (w0:ZY) (K:Int) (Cs:List (List Lt)) (er:Int) (e:Ending) (w':ZY):Prop :=
 ∃B m d Es,e=.returned (.tuple #[H B m d,D J er])/\List.map (fun x:Ce=>x.L) Es=Cs/\m<=1000000/\CodesOwn w' w0.heap.size K B m d Es/\ZZ w0.heap.size w0 w'
theorem zSK {F:List Fg} {T:List (List UInt8)} (h1:zEQ T=E) (h2:zGe F T=E):∀x∈T.map (zNe F),0<=x.f/\x.f<=(F.length:Int)/\1<=x.n/\x.n<=999999999:=by
 obtain ⟨ZS,hU,rfl⟩:=zOr h1;obtain ⟨a1,a2,_⟩:=zQJ F hU;rw [a2] at h2;rw [a1];intro x hx;obtain ⟨t,ht,rfl⟩:=List.mem_map.1 hx;have hg:zOq F t=E:=by
  rw [List.any_eq_false] at h2;simpa using h2 t ht
 obtain ⟨k1,k2,k3⟩:=hU t ht;obtain ⟨fg,n,b⟩:=t;simp only at k1 k2 k3
 cases fg with
 | none=>simp only [btI];omega
 | some f =>
  simp only [zOq,zBc,decide_eq_false_iff_not] at hg;have:=zDF (f:=f) (L:=F);simp only [btI];rw [qN hg];omega
theorem zSL {l:List Bi} (h:zGg l=Q) {x:Bi} (hx:x∈l) (h0:x.f=0):x.n<=((zGf l / 2:Nat):Int)/\zGf l % 2=0:=by
 unfold zGg at h;simp only [Bool.and_eq_true,List.all_eq_true,Bool.not_eq_true'] at h;have:=h.2 x hx;unfold zJJ at this;rw [h0] at this;simp only [Bool.or_eq_false_iff,Bool.and_eq_false_iff] at this;have h3:=this.2.resolve_left (by simp);simp only [decide_eq_false_iff_not,bne_eq_false_iff_eq] at h3;omega
theorem zQP {ZN:List Int} {l:List Bi} {i:Nat} (hi:i < (zAU ZN l).length) (hc:isC (la (zAU ZN l) i)=Q):∃x∈l,x.f=0/\(la (zAU ZN l) i).id=x.n:=by
 have hm:la (zAU ZN l) i∈zAU ZN l:=by
  unfold la;rw [List.getElem?_eq_getElem hi];exact List.getElem_mem hi
 generalize la (zAU ZN l) i=y at hm hc ⊢;unfold zAU at hm;obtain ⟨x,hx,hm⟩:=List.mem_flatMap.1 hm;refine ⟨x,hx,?_⟩;unfold zMe at hm;split at hm
 ·rename_i h0;rw [List.mem_singleton.1 hm];exact ⟨h0,rfl⟩
 ·exfalso;split at hm
  ·simp only [List.mem_cons,List.not_mem_nil,or_false] at hm;rcases hm with e | e<;>rw [e] at hc<;>simp [isC] at hc
  ·simp only [List.mem_cons,List.not_mem_nil,or_false] at hm;rcases hm with e | e<;>rw [e] at hc<;>simp [isC] at hc
theorem zSM {w:ZY} {base:Nat} {K:Int} (hb:base<=w.heap.size):CodesOwn (w.alloc (.cells #[D J K,H U 0 0] 55)) base K (Z ⟨w.heap.size,0,U⟩) 1 1 [⟨[],U,0,0⟩]:=by
 refine ⟨⟨rfl,O _,fun e=>(by cases e),fun ad ha=>?_⟩,fun e he=>?_,fun e he=>by rw [List.mem_singleton.1 he];exact O _⟩
 ·injection ha with ha
  subst ha;have hk:=Blk.new w 55 #[D J K,H U 0 0];refine ⟨rfl,hb,by simp,fun j u hu=>?_,fun j hj=>⟨?_,hk.frozen _⟩⟩
  ·rw [Nat.zero_add,hk.cell];simpa [zUa] using hu
  ·rw [Nat.zero_add,hk.cell];rcases (show j=0∨j=1 by omega) with rfl | rfl<;>rfl
 ·rw [List.mem_singleton.1 he];exact ⟨Lets.nil _ _,fun k hk=>by cases hk⟩
theorem zSN {cr N:Nat} (h:cr<=12) (hN:2 ^ cr=N):wrap64 ((2:Int) ^ cr)=(N:Int)/\IntKind.i64.wrap ((2:Int) ^ cr)=(N:Int)/\IntKind.i64.wrap (1*(2:Int) ^ cr)=(N:Int)/\wrap64 (1*(2:Int) ^ cr)=(N:Int):=by
 have hp1:(2:Int) ^ cr=(N:Int):=by rw [<-hN];simp
 have hN4:N<=4096:=by rw [<-hN];exact Nat.le_trans (Nat.pow_le_pow_right (by omega) h) (by decide)
 have h1:IntKind.i64.wrap (N:Int)=(N:Int):=IntWalk.i64_in _ (by omega);have h2:wrap64 (N:Int)=(N:Int):=by unfold wrap64;omega
 rw [Int.one_mul,hp1];exact ⟨h2,h1,h1,h2⟩
theorem zSO {L:List Fg} {re lo:Int} {S:List UInt8} (h:zAC L re lo S=0):L.length<=40/\S.length<=8000:=⟨(zCQ.1 (zBZ h).2).1,(zBZ h).1⟩
theorem zQQ {K:Int} {B:Option Addr} {n d:Nat} {L ZN:List Lt} {cr nu:Nat} (h:zCR cr nu L=ZN) (w:ZY) (hB:Lets w B n L) (hn:n<=1000000) (hcr:cr<=12) (hnu:nu < 4096) (hid:∀i,i < n->isC (la L i)=Q->1<=(la L i).id/\(la L i).id<=cr) :
  Calls ZX 82 #[.agg #[D J K,H B n d],D J (cr:Int),D J (nu:Int)] w (zMl w K ZN):=by
 subst h;exact zKX K B n d L cr nu w hB hn hcr hnu hid
theorem zFG (F:Fm) (S:List UInt8) (w:ZY) (hA:Fgs w F.A F.n F.L) (hc:F.n<=F.c) (ht:Tabs w) :
  Calls ZX 37 #[frV F.A F.n F.c F.re F.lo,W (bA S)] w (zSJ w (F.n:Int) (rqR F.L F.re F.lo S).1 (rqR F.L F.re F.lo S).2):=by
 have kY:F.L.length=F.n:=hA.len;have ah:ZZ w.heap.size w (w.alloc (.cells #[H F.A F.n F.c,D J F.re,D J F.lo] 24)):=(M _ _).alloc (O _) _;have hk0:Blk (w.alloc (.cells #[H F.A F.n F.c,D J F.re,D J F.lo] 24)) w.heap.size 24 #[H F.A F.n F.c,D J F.re,D J F.lo]:=Blk.new _ _ _;have HA:=qH hA;have HT:=qH ht;have eT:=qH kY;obtain ⟨ZQ,hE⟩:∃ZQ,zAC F.L F.re F.lo S=ZQ:=⟨_,rfl⟩
 have hcs:=zEM F.L F.re F.lo S;rw [hE] at hcs;have lE:=qH (fun wx (hx:Fgs wx F.A F.n F.L)=>zDs F.A F.n F.c F.L F.re F.lo S wx hx hc);simp only [hE] at lE;have HE:=qH hE;obtain ⟨⟨TC,TE⟩,p6⟩:∃x,rqR F.L F.re F.lo S=x:=⟨_,rfl⟩
 rw [p6];simp only;have d9:=qH (fun (Cs:List (List Lt)) (er:Int) (hq:rqR F.L F.re F.lo S=(Cs,er)) (e:Ending) (wx:ZY) (h:zSJ w (F.n:Int) Cs er e wx)=>(show zSJ w (F.n:Int) TC TE e wx by rw [p6] at hq;injection hq with h1 h2;subst h1;subst h2;exact h));have HHC:=qH hc;clear hA ht hE p6 kY hc;go_enter Tryz.func37,Tryz.ntmps37;go_wp2_with fail
 generalize w.alloc (.cells #[H F.A F.n F.c,D J F.re,D J F.lo] 24)=Y at ah hk0 ⊢;refine (lE.out Y (HA.out.below ah)).mono ?_;rintro e Y2 ⟨rfl,ai⟩;have bt:=hk0.below ai hk0.lt;have al:=zAa ah ai ah.size;clear hk0 ah ai lE;by_cases h0:ZQ=0
 ·subst h0;obtain ⟨yL,hS8⟩:=zSO HE.out;have qq:F.n<=40:=by rw [<-eT.out];exact yL
  have A9:=qH (show ¬(zAC F.L F.re F.lo S≠0) from fun h=>h HE.out);obtain ⟨v0,v1,v2⟩:=cQ3 bt;have n0:=zAp S zJK;have hwz:w.heap.size<=Y2.heap.size:=al.size;have hwr:w.heap.size < Y2.heap.size:=bt.lt;clear hcs yL;by_cases hba:S=zJK
  ·rw [show (S==zJK)=Q from by simpa using hba] at n0;have HF:=qH (d9.out [[]] 0 (by unfold rqR;rw [qN A9.out,qP hba]) _ _ ⟨Z ⟨Y2.heap.size,0,U⟩,1,1,[⟨[],U,0,0⟩],rfl,rfl,by omega,zSM (K:=(F.n:Int)) hwz,al.alloc al.size _⟩);unfold zJK at n0;clear hba bt al;go_wp2_with fail
   go_ret2;exact HF.out
  ·rw [show (S==zJK)=E from by simpa using hba] at n0;unfold zJK at n0;have tW:=qH hba;have hbl:=(M Y2.heap.size Y2).alloc (O _) (.cells (rdC F.A F.n F.c F.re F.lo U 0 0 E E) 123);have bh:=zAa al hbl al.size
   have hrx:RX (Y2.alloc (.cells (rdC F.A F.n F.c F.re F.lo U 0 0 E E) 123)) Y2.heap.size F ⟨[],E,E⟩ :=
    ⟨⟨U,0,0,Blk.new _ _ _,Els.nil _ _,O _,fun k hk=>by cases hk⟩,HA.out.below bh,fun h0 k hk=>by
     obtain ⟨g,o,e,hg,_⟩:=HA.out.1.2.2 h0
     rw [e] at hk
     injection hk with hk
     have iZ:g=k:=hk
     omega⟩
   have uM:=bt.below hbl bt.lt;clear hba bt al hbl;go_upto_region 8 with fail
   clear v0 v1 v2 n0;generalize Y2.alloc (.cells (rdC F.A F.n F.c F.re F.lo U 0 0 E E) 123)=ZR at bh hrx uM ⊢;generalize Y2.heap.size=rb at hrx hwz hwr ⊢;have Cz:∀X,ZR.grownBy X (Z rb)->ZZ w.heap.size w X:=fun X hg=>zAa bh (zBM hg hwz bh.size) (O _)
   have eN:=qH Cz;have Ad:=qH (zMm rb F [] E E S ZR hrx (by omega) (fun X hg=>HT.out.below (Cz X hg)));clear Cz hrx bh;go_wp2_with fail
   refine Ad.out.mono ?_;rintro e X ⟨A1,c1,rfl,fL,gV,dX⟩;have bD:=eN.out X dX;have wB:=uM.grown dX (fun e=>by injection e;omega);obtain ⟨Ws,vd⟩:∃x,zAI 32 S=x:=⟨_,rfl⟩
   have hWl:Ws.length<=8001:=by rw [<-vd];have:=zBp S;omega
   rw [vd] at fL gV ⊢;rw [Bool.false_or,Bool.false_or] at gV;have zv:=qH vd;obtain ⟨bd,hbd⟩:∃b,zEQ Ws=b:=⟨_,rfl⟩
   obtain ⟨ls,hls⟩:∃b,zGe F.L Ws=b:=⟨_,rfl⟩
   rw [hbd,hls] at gV;have c4:=gV.bad4.1;have c5:=gV.lost5;simp only at c4 c5;have iu:=qH hbd;have pL:=qH hls;clear vd hbd hls dX uM Ad
   cases bd with
   | true =>
    have HF:=qH (d9.out [] 6 (by unfold rqR;rw [qN A9.out,qN tW.out,zv.out,qP iu.out]) _ X ⟨U,0,0,[],rfl,rfl,by omega,CodesOwn.none_ _ _ _,bD⟩);clear gV fL bD wB c5;go_wp2_with fail
    go_ret2;exact HF.out
   | false =>
   cases ls with
   | true =>
    have HF:=qH (d9.out [] 8 (by unfold rqR;rw [qN A9.out,qN tW.out,zv.out,qN (by rw [iu.out];simp),qP pL.out]) _ X ⟨U,0,0,[],rfl,rfl,by omega,CodesOwn.none_ _ _ _,bD⟩);clear gV fL bD wB;go_wp2_with fail
    go_ret2;exact HF.out
   | false =>
    have AP:=zSK iu.out pL.out;obtain ⟨l,hl⟩:∃l,Ws.map (zNe F.L)=l:=⟨_,rfl⟩
    have hll:l.length=Ws.length:=by rw [<-hl,List.length_map]
    have yR:Bits X A1 Ws.length l:=by
     rw [hl] at fL;refine ⟨fL.els (fun _=>rfl) (by omega) (by omega),fun x hx=>?_⟩;rw [<-hl] at hx;obtain ⟨y,_,rfl⟩:=List.mem_map.1 hx;exact zVB (by rw [eT.out];omega) y
    rw [hl,eT.out] at AP;have GV:=qH AP;have fw:=qH (show zGz F.L S=l by unfold zGz;rw [zv.out,hl]);obtain ⟨n1,mU⟩:∃n,Ws.length=n:=⟨_,rfl⟩
    rw [mU] at yR hWl hll ⊢;have eR:=qH hll;have pO:=qH (zIj F.n A1 n1 c1 l X yR qq (by omega) (fun x hx=>by have:=AP x hx;omega))
    have GG:=qH (show ∀r,(if zGg l=E then (([]:List (List Lt)),(3:Int)) else if 12 < crS F.L S∨400 < (zCc F.L S).length then ([],7) else if zBe F.L F.re F.lo (crS F.L S) (zCc F.L S) (2 ^ crS F.L S)=[] then ([],3) else (zBe F.L F.re F.lo (crS F.L S) (zCc F.L S) (2 ^ crS F.L S),0))=r->rqR F.L F.re F.lo S=r by
     intro r hr
     unfold rqR
     rw [qN A9.out,qN tW.out,zv.out,qN (by rw [iu.out];simp),qN (by rw [pL.out];simp),fw.out]
     exact hr)
    clear gV AP hl mU hll fL;go_wp2_with fail
    clear c4 c5;refine pO.out.mono ?_;intro e X2 hcp;rcases hcp with ⟨hcb,g2,rfl,il,az⟩ | ⟨hcb,rfl,az⟩
    ·have uW:=zAa bD az bD.size;have uL:=wB.below az wB.lt;have yQ:=yR.below az;have G9:=qH hcb;have Bd:=qH (show ∀j,j < F.n+2->∃v:Nat,(zCI F.n l)[j]? = Z (v:Int)/\v<=100000 from fun j hj=>⟨_,zGh F.n l hj,by have:=zMf l (j:Int);have:=eR.out;omega⟩);have D3:=qH (zMn F.n A1 n1 c1 l g2 (zCI F.n l) X2 yQ ⟨il.blk,Nat.zero_le _,il.len⟩ qq (by omega) (fun x hx=>by have:=GV.out x hx;omega) Bd.out);obtain ⟨L,hL⟩:∃L,zAU (zCI F.n l) l=L:=⟨_,rfl⟩
     obtain ⟨cr,hcr⟩:∃c,zGf l / 2=c:=⟨_,rfl⟩
     rw [hL] at D3;rw [hcr];have ji:=qH (show zCc F.L S=L/\crS F.L S=cr by unfold zCc crS;rw [fw.out,eT.out];exact ⟨hL,hcr⟩)
     have DU:=qH (show ∀i,i < L.length->isC (la L i)=Q->1<=(la L i).id/\(la L i).id<=cr from fun i hi hc=>by
      rw [<-hL] at hi hc ⊢
      obtain ⟨x,hx,h0,he⟩:=zQP hi hc
      have h1:=zSL G9.out hx h0
      have h2:=GV.out x hx
      rw [hcr] at h1
      rw [he];omega)
     have GF:=qH (show ∀r,(if 12 < cr∨400 < L.length then (([]:List (List Lt)),(7:Int)) else if zBe F.L F.re F.lo cr L (2 ^ cr)=[] then ([],3) else (zBe F.L F.re F.lo cr L (2 ^ cr),0))=r->rqR F.L F.re F.lo S=r by
      intro r hr
      refine GG.out r ?_
      rw [qN (by rw [G9.out];simp),ji.out.1,ji.out.2]
      exact hr)
     have hcb2:cr<=20001:=by rw [<-hcr];have:=zMg l;have:=eR.out;omega
     clear hcb il az yR yQ hL hcr bD wB pO;go_wp2_with fail
     refine D3.out.mono ?_;rintro e X3 ⟨B3,m3,d3,rfl,pk,aM⟩;have Fr:L.length=m3:=pk.len;have bY:=zAa uW aM uW.size;have uK:=uL.below aM uL.lt;have ux:m3<=1000000:=by
      have h8:=zOo (zCI F.n l) l;have h7:=eR.out;have h9:=ji.out.1;unfold zCc at h9;rw [fw.out,eT.out] at h9;rw [h9] at h8;omega
     have hbl:=(M X3.heap.size X3).alloc (O _) (.cells #[D J (F.n:Int),H B3 m3 d3] 55);have nD:Blk (X3.alloc (.cells #[D J (F.n:Int),H B3 m3 d3] 55)) X3.heap.size 55 #[D J (F.n:Int),H B3 m3 d3]:=Blk.new _ _ _;have CR:=pk.lets.below hbl;have jJ:=zAa bY hbl bY.size;have qu:=uK.below hbl uK.lt;clear pk aM uW uL bY uK hbl D3;go_upto_region 17 with fail
     generalize X3.alloc (.cells #[D J (F.n:Int),H B3 m3 d3] 55)=X4 at nD CR jJ qu ⊢;generalize X3.heap.size=a13 at nD ⊢;have u1:X4.cell? ⟨a13,1,U⟩=Z (H B3 m3 d3):=(nD.cell 1).trans rfl;by_cases h7:12 < cr∨400 < L.length
     ·have HF:=qH (d9.out [] 7 (GF.out _ (qP h7)) _ X4 ⟨U,0,0,[],rfl,rfl,by omega,CodesOwn.none_ _ _ _,jJ⟩);clear nD CR jJ qu;by_cases h8:12 < cr
      ·have i0:(12:Int) < (cr:Int):=by omega
       clear h7 u1;go_wp2_with fail
       go_ret2;exact HF.out
      ·have i0:¬(12:Int) < (cr:Int):=by omega
       have i1:(400:Int) < (m3:Int):=by omega
       clear h7;go_wp2_with fail
       go_ret2;exact HF.out
     ·have i0:¬(12:Int) < (cr:Int):=by omega
      have i1:¬(400:Int) < (m3:Int):=by omega
      have o8:cr<=12:=by omega
      obtain ⟨N,hN⟩:∃N,2 ^ cr=N:=⟨_,rfl⟩
      have hN4:N<=4096:=by rw [<-hN];exact Nat.le_trans (Nat.pow_le_pow_right (by omega) o8) (by decide)
      have GE:=qH (show ∀r,(if zBe F.L F.re F.lo cr L N=[] then (([]:List (List Lt)),(3:Int)) else (zBe F.L F.re F.lo cr L N,0))=r->rqR F.L F.re F.lo S=r by
       intro r hr
       refine GF.out r ?_
       rw [qN h7,hN]
       exact hr)
      have HL3:=qH Fr;have A4:=qH (zSN o8 hN);clear h7 hN;go_upto_region 19 with fail
      clear i0 i1;go_upto_region 20 with fail -- B
      go_wp2_with fail -- A
      first
       | rw [A4.out.1]
       | rw [A4.out.2.1]
       | rw [A4.out.2.2.1]
       | rw [A4.out.2.2.2]
      have Cu:w.heap.size<=X4.heap.size:=jJ.size;have DS:=qH (show ∀i,i < m3->isC (la L i)=Q->1<=(la L i).id/\(la L i).id<=cr from fun i hi hc=>DU.out i (by rw [HL3.out];exact hi) hc);clear Fr u1;go_loopw [14,70] (fun v14 v70 wv=>∃(nu m:Nat) (X:ZY) (A':Option Addr) (c':Nat) (Es:List Ce),X=wv/\nu<=N/\m<=nu/\v70=D J nu/\v14=H A' m c'/\CodesOwn X X4.heap.size (F.n:Int) A' m c' Es/\ZZ X4.heap.size X4 X/\Hid (List.map (fun x:Ce=>x.L) Es=zBe F.L F.re F.lo cr L nu)) (fun _ v70 _=>N-(intOf v70).toNat)
      case atStart=>exact ⟨0,0,_,U,0,[],rfl,by omega,by omega,rfl,rfl,CodesOwn.none_ _ _ _,M _ _,qH rfl⟩
      case round =>
       obtain ⟨nu,m,X5,A',c',Es,qF,hnu,hmn,rfl,rfl,vp,az,HS⟩:=hrel;subst qF;by_cases hlt:nu < N
       ·have j0:(0:Int)<=(nu:Int):=by omega
        have j1:(nu:Int) < (N:Int):=by omega
        have jZ:=nD.below az nD.lt;have fX:=qu.below az qu.lt;have Fq:=CR.below az;have jI:=zAa jJ az jJ.size;obtain ⟨ZN,hM⟩:∃ZN,zCR cr nu L=ZN:=⟨_,rfl⟩
        obtain ⟨p,hp⟩:∃p,zCH F.L F.re F.lo (F.L.length:Int) ZN=p:=⟨_,rfl⟩
        have zF:=qH (zQQ (K:=(F.n:Int)) (d:=d3) hM X5 Fq ux o8 (by omega) DS.out);have ir:=qH (fun wx (hx:Fgs wx F.A F.n F.L) (B:Option Addr) (q r:Nat) (hy:Lets wx B q ZN)=>zGw (d:=r) hp wx hx HHC.out hy);rw [eT.out] at ir;have Bh:=qH (fun (h:p=Q)=>zMo (F:=F.L) (re:=F.re) (lo:=F.lo) (cr:=cr) (L:=L) (m:=nu) (by rw [hM,hp,h]));have ox:=qH (fun (h:p=E)=>zOu (F:=F.L) (re:=F.re) (lo:=F.lo) (cr:=cr) (L:=L) (m:=nu) (by rw [hM,hp,h]));rw [hM] at Bh;obtain ⟨u0,u1⟩:=cQ2 jZ;have yb:nu+1<=N:=hlt;have o6:m+1<=nu+1:=by omega
        have jF:m+1<=1000000:=by omega
        have cE:m<=nu+1:=by omega
        clear hM hp Fq jZ;go_wp2_with fail
        clear u0 u1;refine zF.out.mono ?_;rintro e X6 ⟨B5,m5,d5,rfl,yG,aM⟩;have FA:=vp.below aM;have mW:=fX.below aM fX.lt;have uQ:=zAa jI aM jI.size;have uY:=zAa az aM az.size;have hlow:=fun k hk=>(vp.row.lt k hk).2
        have D1:=qH (show m5<=d5 from yG.row.cap);have vO:=qH (fun k (hk:blk B5=Z k)=>(show k < X6.heap.size/\blk A'≠Z k from ⟨(yG.row.lt k hk).2,fun e2=>by have h1:=(yG.row.lt k hk).1;have h2:=hlow k e2;omega⟩));have hbl:=(M X6.heap.size X6).alloc (O _) (.cells #[D J (F.n:Int),H B5 m5 d5] 55);have nC:Blk (X6.alloc (.cells #[D J (F.n:Int),H B5 m5 d5] 55)) X6.heap.size 55 #[D J (F.n:Int),H B5 m5 d5]:=Blk.new _ _ _;have CX:=FA.below hbl;have Cm:=mW.below hbl mW.lt;have uP:=zAa uQ hbl uQ.size;have qB:=zAa uY hbl uY.size;have AO:=yG.lets.below hbl;have xU:X6.heap.size<=(X6.alloc (.cells #[D J (F.n:Int),H B5 m5 d5] 55)).heap.size:=hbl.size;clear vp fX jI az yG aM FA mW uQ uY hlow hbl zF;go_upto_region 24 with fail
        have np:=qH (fun k (hk:blk B5=Z k)=>(show k < (X6.alloc (.cells #[D J (F.n:Int),H B5 m5 d5] 55)).heap.size/\blk A'≠Z k from ⟨Nat.lt_of_lt_of_le (vO.out k hk).1 xU,(vO.out k hk).2⟩));clear vO xU;generalize X6.alloc (.cells #[D J (F.n:Int),H B5 m5 d5] 55)=X7 at nC CX Cm uP qB AO np ⊢;generalize X6.heap.size=a16 at nC ⊢;obtain ⟨u0,u1⟩:=cQ2 nC;obtain ⟨v0,v1,v2⟩:=cQ3 Cm;clear Cm;go_wp2_with fail
        clear u0 u1 v0 v1 v2;refine (ir.out X7 (HA.out.below uP) B5 m5 d5 AO).mono ?_;rintro e X8 ⟨rfl,cz⟩;have Cd:=nC.below cz nC.lt;have yN:=CX.below cz;have CQ:=AO.below cz;have qA:=zAa qB cz qB.size;have zT:=qH (fun k (hk:blk B5=Z k)=>(show k < X8.heap.size/\blk A'≠Z k from ⟨Nat.lt_of_lt_of_le (np.out k hk).1 cz.size,(np.out k hk).2⟩));clear nC CX AO qB uP cz np ir
        cases p with
        | false =>
         have HF:=qH (show List.map (fun x:Ce=>x.L) Es=zBe F.L F.re F.lo cr L (nu+1) by rw [ox.out rfl];exact HS.out);clear Cd CQ;go_wp2_with fail
         go_roundw
         case rel=>exact ⟨nu+1,m,_,A',c',Es,rfl,yb,cE,by go_num,rfl,yN,qA,HF⟩
         case measure=>simp [intOf];omega
        | true =>
         have HF:=qH (show List.map (fun x:Ce=>x.L) (Es++[(⟨ZN,B5,m5,d5⟩:Ce)])=zBe F.L F.re F.lo cr L (nu+1) by rw [Bh.out rfl,List.map_append,HS.out];rfl);obtain ⟨u0,u1⟩:=cQ2 Cd;have wh:X4.heap.size<=X8.heap.size:=qA.size;clear Cd;go_upto_region 26 with (at_builtin;refine zEK ?_)
         refine qH ?_;refine zYu (base:=X4.heap.size) (K:=(F.n:Int)) (A:=A') (n:=m) (c:=c') (Es:=Es) (y:=⟨ZN,B5,m5,d5⟩) (N:=m+1) rfl (.tmp 80) (.tmp 82) ?_ ?_ ?_ ?_ ?_ ?_ ?_ ?_
         ·rfl
         ·exact yN.row
         ·rfl
         ·rfl
         ·rfl
         ·exact jF
         ·exact wh
         intro A2 c2 w9 hR9 b8 cl;have hE9:=yN.push ⟨ZN,B5,m5,d5⟩ ⟨CQ,zT.out⟩ D1.out hR9 b8 cl;have bn:=qA.trans (yN.row.belowOf b8 wh);clear yN CQ qA hR9 b8 cl u0 u1;go_wp2_with fail
         go_roundw
         case rel=>exact ⟨nu+1,m+1,_,A2,c2,_,rfl,yb,o6,by go_num,rfl,hE9,bn,HF⟩
         case measure=>simp [intOf];omega
       ·have j1:¬(nu:Int) < (N:Int):=by omega
        have hin:nu=N:=by omega
        have hlen:=vp.len;have wH:=HS.out;rw [hin] at wH;have jI:=zAa jJ az jJ.size;by_cases hm0:m=0
        ·have hes:Es=[]:=List.length_eq_zero_iff.1 (by omega);have HF:=qH (d9.out [] 3 (GE.out _ (qP (by rw [<-wH,hes];rfl))) _ X5 ⟨U,0,0,[],rfl,rfl,by omega,CodesOwn.none_ _ _ _,jI⟩);subst hm0;clear vp az jI wH hlen hin hlt HS;go_wp2_with fail
         go_ret2;exact HF.out
        ·have i5:((m:Int)==0)=E:=by simp;omega
         have HF:=qH (d9.out (List.map (fun x:Ce=>x.L) Es) 0 (GE.out _ (by rw [qN (by rw [<-wH];intro h;have:=congrArg List.length h;simp at this;rw [this] at hlen;simp at hlen;omega),<-wH])) _ X5 ⟨A',m,c',Es,rfl,rfl,by omega,vp.mono Cu,jI⟩);clear vp az jI wH hlen hin hlt HS hm0;go_wp2_with fail
         go_ret2;exact HF.out
    ·have HF:=qH (d9.out [] 3 (GG.out _ (qP hcb)) _ X2 ⟨U,0,0,[],rfl,rfl,by omega,CodesOwn.none_ _ _ _,zAa bD az bD.size⟩);clear hcb az yR bD wB;go_wp2_with fail
     go_ret2;exact HF.out
 ·have HF:=qH (d9.out [] ZQ (by unfold rqR;rw [HE.out,qP h0]) _ Y2 ⟨U,0,0,[],rfl,rfl,by omega,CodesOwn.none_ _ _ _,al⟩);have k0:(ZQ != 0)=Q:=by simpa using h0
  clear hcs h0 al bt;go_wp2_with fail
  go_ret2;exact HF.out
theorem zQR (A:Option Addr) (n c:Nat) (re lo:Int) (w:ZY) :
  Calls ZX 15 #[frV A n c re lo] w fun e w'=>e=.returned (G (decide (n<=60)))/\ZZ w.heap.size w w':=by
 have ah:ZZ w.heap.size w (w.alloc (.cells #[H A n c,D J re,D J lo] 24)):=(M _ _).alloc (O _) _;by_cases h:n<=60
 ·have i0:(n:Int)<=60:=by omega
  rw [decide_eq_true h];clear h;go_enter Tryz.func15,Tryz.ntmps15;go_wp2_with fail
  go_ret;exact ⟨rfl,ah⟩
 ·have i0:¬(n:Int)<=60:=by omega
  rw [decide_eq_false h];clear h;go_enter Tryz.func15,Tryz.ntmps15;go_wp2_with fail
  go_ret;exact ⟨rfl,ah⟩
def ogs (Es:List Oe):List Og:=Es.map fun e=>e.o
def stdF:List Fg:=[⟨1,E,1⟩,⟨1,E,2⟩,⟨1,E,3⟩,⟨1,E,4⟩,⟨1,E,5⟩,⟨1,Q,5⟩,⟨1,Q,4⟩,⟨1,Q,3⟩,⟨1,Q,2⟩,⟨1,Q,1⟩]
def exL (s:Int):List Lt:=[⟨1,1,1,0,0,E⟩,⟨1,0,1,0,0,E⟩,⟨2,0,0,1,s,E⟩,⟨1,9,1,0,0,E⟩,⟨1,10,1,0,0,E⟩,⟨2,0,0,1,s,Q⟩]
def exS:List UInt8:=[76,49,46,49,60,32,49,117,32,82,49,46,49,62,32,49,111]
def exT:List It:=[⟨Z ⟨1,E,1⟩,1,E⟩,⟨U,1,E⟩,⟨Z ⟨1,Q,1⟩,1,Q⟩,⟨U,1,Q⟩]
def exB:List Bi:=[⟨1,1,E⟩,⟨0,1,E⟩,⟨10,1,Q⟩,⟨0,1,Q⟩]
theorem zXk:Lib.join (exT.map itW) [32]=exS:=by kernel_rfl
theorem zYv:∀t∈exT,okI t:=by
 intro t ht;simp only [exT,List.mem_cons,List.not_mem_nil,or_false] at ht;rcases ht with rfl | rfl | rfl | rfl<;>refine ⟨fun f hf=>?_,by simp only;omega,by simp only;omega⟩<;>first | (cases hf;done) | (injection hf with hf;subst hf;decide)
theorem zSP:zGz stdF exS=exB/\zEQ (zAI 32 exS)=E/\zGe stdF (zAI 32 exS)=E:=by
 obtain ⟨h1,h2,h3⟩:=zQJ stdF zYv;have hs:zAI 32 exS=exT.map itW:=by rw [<-zXk];exact zOs (by simp [exT])
 unfold zGz;rw [hs,h1,h2,h3];exact ⟨by kernel_rfl,by kernel_rfl,by kernel_rfl⟩
theorem zSQ:zAC stdF 6 4 exS=0:=by kernel_rfl
theorem zVF:zGg exB=Q:=by kernel_rfl
theorem zSR:zBe stdF 6 4 (zGf exB / 2) (zAU (zCI stdF.length exB) exB) (2 ^ (zGf exB / 2))=[exL 1]:=by kernel_rfl
theorem zSS:¬(12 < zGf exB / 2∨400 < (zAU (zCI stdF.length exB) exB).length):=by decide
theorem zYw:rqR stdF 6 4 exS=([exL 1],0):=by
 obtain ⟨h1,h2,h3⟩:=zSP;unfold rqR zCc crS;rw [h1,zSQ,qN (by simp),qN (by decide),qN (by rw [h2];simp),qN (by rw [h3];simp),qN (by rw [zVF];simp),qN zSS,zSR,qN (by simp)]
theorem zUc:sqS stdF 6 4 10 (exL 1)=exS/\zDh stdF 6 4 10 (exL 1)=0:=⟨by kernel_rfl,by kernel_rfl⟩
def zYx:List UInt8:=[116,97,107,101,32,76,50,32,102,114,111,109,32,76,55,32,102,97,114,32,117,110,100,101,114]
def zYy:List UInt8:=[114,101,108,101,97,115,101,32,50,76,49]
theorem zST {f:Fg} (h:zAn f=Q):zAj f≠[76,55]:=by
 obtain ⟨a1,a2,a3,a4⟩:=zAv.1 h;intro e;unfold zAj at e;rw [zCs a3 (by omega)] at e;have:=congrArg List.getLast? e;simp only [List.getLast?_append,List.getLast?_cons] at this;have h2:=zJk (a:=48+f.d.toNat) (b:=55) (by omega) (by omega) (by simpa using this);omega
theorem zVG (L:List Fg):zDt L zYx=6:=by
 refine (zIG L fun n hn he=>?_).1;have h:=zDc n;rw [<-he,show zBw zYx=[[116,97,107,101],[76,50],[102,114,111,109],[76,55],[102,97,114],[117,110,100,101,114]] by kernel_rfl] at h;unfold zJm at h;injection h with h1 h2
 injection h2 with h2 h3
 have gW:1<=n.kind/\n.kind<=8:=by
  rcases hn.2 with h | h | h | h | h<;>omega
 have hk:n.kind=5:=by
  rw [<-zCC gW.1 gW.2,<-h1];decide
 obtain ⟨x,hx,hxo⟩:∃x,n.fr=Z x/\zCh x:=by
  rcases hn.2 with h | h | h | h | h
  ·omega
  ·omega
  ·omega
  ·exact h.2.1
  ·omega
 unfold tlT at h3;rw [qN (by omega),qN (by omega),qP hk] at h3;injection h3 with _ h4
 unfold frT at h4;rw [hx] at h4;unfold plT at h4;injection h4 with h5 _
 exact zST hxo.1 h5.symm
theorem zVH:zDt stdF zYy=8:=by
 have h:okN ⟨1,⟨2,E,1⟩,U,[],E⟩:=⟨by decide,.inl ⟨.inl rfl,rfl,rfl,rfl⟩⟩;have hl:zBY ⟨1,⟨2,E,1⟩,U,[],E⟩=zYy:=by kernel_rfl
 have:=(zEn stdF h).1;rw [hl] at this;rw [this];decide
def exO:Og:=⟨3,9,⟨5,1,E,0⟩,[⟨⟨6,1,E,0⟩,Q⟩],E⟩
def zYz:List UInt8:=[112,105,99,107,32,82,50,32,111,118,101,114,32,82,53,32,110,101,97,114,32,108,111,111,112,32,49,44,32,102,114,111,109,32,76,53,32,110,101,97,114,32,108,111,111,112,32,49]
def zNm:List UInt8:=[82,50,60,82,53,110,111,60,76,53,110]
def zYA:List UInt8:=[112,105,99,107,32,82,50,32,111,118,101,114,32,82,53,32,110,101,97,114,44,32,102,114,111,109,32,76,53,32,110,101,97,114,10]
theorem zNn:zAW stdF 6 4 [exO]=0/\zBg stdF exO=zYz:=⟨by kernel_rfl,by kernel_rfl⟩
def exN:Nop:=⟨3,⟨1,Q,2⟩,Z ⟨⟨1,E,5⟩,0,E,0⟩,[(⟨⟨1,Q,5⟩,0,E,0⟩,Q)],E⟩
theorem zUd:okN exN/\zWk exN:=by
 have h1:zCh ⟨⟨1,E,5⟩,0,E,0⟩:=⟨by decide,by simp,by simp,by simp,by simp⟩;have h2:zCh ⟨⟨1,Q,5⟩,0,E,0⟩:=⟨by decide,by simp,by simp,by simp,by simp⟩;refine ⟨⟨by decide,.inr (.inr (.inl ⟨rfl,⟨_,rfl,h1⟩,fun y hy=>?_,rfl⟩))⟩,rfl,fun x hx=>?_,fun y hy=>?_⟩
 ·rw [List.mem_singleton.1 hy];exact h2
 ·injection hx with hx;rw [<-hx];exact ⟨rfl,rfl,rfl⟩
 ·rw [List.mem_singleton.1 hy];exact ⟨rfl,rfl,rfl⟩
theorem zVI:zEv exN=zNm:=by kernel_rfl
theorem zNo:itE stdF zNm=0/\itO stdF zNm=[oOf stdF exN]:=by
 have hs:zAI 32 zNm=[zNm]:=by kernel_rfl
 have h:=zPM zUd.1 zUd.2;rw [zVI] at h;have ha:zBA (zAI 32 zNm)=Z [exN]:=by rw [hs,zBA,h,zBA]
 have hl:List.any [exN] (zAy stdF)=E:=by decide
 unfold itE itO;rw [qN (by decide),qN (by decide),ha];simp only [hl];exact ⟨rfl,rfl⟩
theorem zNp:trE stdF 6 4 zNm 2 1=0/\trS stdF 6 4 zNm 2 1=zYA:=by
 have hb:zAC stdF 6 4 zNm=0:=by kernel_rfl
 have hf:frB stdF 6 4=Q:=by kernel_rfl
 have h1:ntE stdF 6 4 2 zNm=0:=by
  unfold ntE rsE;rw [qN (by omega),qP hb];exact zNo.1
 have h2:ntO stdF 6 4 2 zNm=[oOf stdF exN]:=by
  unfold ntO rsO;rw [qN (by omega),qP hb];exact zNo.2
 have h3:trE stdF 6 4 zNm 2 1=0:=by
  unfold trE;rw [qP ⟨hf,.inr rfl,.inl rfl⟩,qP h1,qN (by omega)]
 refine ⟨h3,?_⟩;unfold trS;rw [qP h3,h2]
 kernel_rfl
open Go
def ovC (o:Bool):UInt8:=if o then 111 else 117
def sgC (s:Int):UInt8:=if s=1 then 43 else if s = -1 then 45 else 63
def ltS (l:Lt):List UInt8:=if l.kind=1 then Lib.itoa l.gate++[46]++Lib.itoa l.rank else if l.kind=2 then Lib.itoa l.id++[ovC l.over]++[sgC l.sign] else [63]
def zLb (L:List Lt):List UInt8:=L.flatMap (fun l=>32 :: ltS l)
def zCJ (K:Int) (L:List Lt):List UInt8:=Lib.itoa K++[58]++zLb L
theorem zJO (L:List Lt) (l:Lt):zLb (L++[l])=zLb L++([32]++ltS l):=by unfold zLb;rw [List.flatMap_append];simp
theorem zQS {x:Int} (h:I64 x):-9223372036854775808<=x/\x<=9223372036854775807:=h
theorem zQT {l:Lt} (h:LtOk l):(ltS l).length<=44:=by
 have hg:=zQS h.gate;have hr:=zQS h.rank;have hi:=zQS h.id;have h1:=Lib.itoa_length_le _ hg.1 hg.2;have h2:=Lib.itoa_length_le _ hr.1 hr.2;have h3:=Lib.itoa_length_le _ hi.1 hi.2;unfold ltS;split
 ·simp;omega
 ·split
  ·simp;omega
  ·simp
theorem zGA:∀{L:List Lt},(∀x∈L,LtOk x)->(zLb L).length<=45*L.length
 | [],_=>by simp [zLb]
 | l :: L,h=>by
  have h1:=zQT (h l (List.mem_cons_self ..));have h2:=zGA (fun x hx=>h x (List.mem_cons_of_mem _ hx));unfold zLb at h2 ⊢;rw [List.flatMap_cons,List.length_append,List.length_cons,List.length_cons];omega
theorem zOv {K:Int} {L:List Lt} (hK:I64 K) (h:∀x∈L,LtOk x):(zCJ K L).length<=45*L.length+22:=by
 have h1:=Lib.itoa_length_le K hK.1 hK.2;have h2:=zGA h;unfold zCJ;simp only [List.length_append,List.length_cons,List.length_nil];omega
theorem zJP {x:Int} (hx:I64 x):(Lib.itoa x).length<=21:=Lib.itoa_length_le x hx.1 hx.2
theorem zYB {L:List Lt} {i:Nat} (h:i < L.length):L[i]? = Z (la L i):=by unfold la;rw [List.getElem?_eq_getElem h];rfl
theorem zVJ {L:List Lt} {i:Nat} (h:i < L.length):L.take (i+1)=L.take i++[la L i]:=by rw [List.take_add_one,zYB h];rfl
theorem zMp {K:Int} {L:List Lt} {i:Nat} (h:i < L.length):zCJ K (L.take (i+1))=zCJ K (L.take i)++32 :: ltS (la L i):=by
 unfold zCJ;rw [zVJ h,zJO];simp
theorem zVK {L:List Lt} (i:Nat) (h:∀x∈L,LtOk x):∀x∈L.take i,LtOk x:=fun x hx=>h x (List.mem_of_mem_take hx)
