/-
  Lemmas, part 41. Conditions: each theorem's own.
-/
import Derived.Test.YtlmdfmnbcndhoaaGreatDoorRq40
import Derived.Deep.DeepCutAuto
import Derived.Test.YtlmdfmnbcndhoaaGreatDoorRq05
import Derived.Test.YtlmdfmnbcndhoaaGreatDoorRq38
import Derived.Test.YtlmdfmnbcndhoaaGreatDoorRq27
import Derived.Test.YtlmdfmnbcndhoaaGreatDoorRq26
open Bool renaming false→E,true→Q
open Go.Value renaming bool→G,int→D,slice→H,string→W
open Go.IntKind renaming i64→J
open Option renaming none→U,some→Z
namespace Go.Proofs.YtlmdfmnbcndhoaaGreatDoor
open Go.RowKit
theorem zNx (sign:Int):((sign==1)=Q∧sgC sign=43)∨((sign==1)=E∧(sign==-1)=Q∧sgC sign=45)∨((sign==1)=E∧(sign==-1)=E∧sgC sign=63):=by
 unfold sgC;by_cases h1:sign=1
 ·exact .inl ⟨by simpa using h1,by rw [if_pos h1]⟩
 ·by_cases h2:sign = -1
  ·exact .inr (.inl ⟨by simpa using h1,by simpa using h2,by rw [if_neg h1,if_pos h2]⟩)
  ·exact .inr (.inr ⟨by simpa using h1,by simpa using h2,by rw [if_neg h1,if_neg h2]⟩)
set_option maxRecDepth 100000 in
set_option maxHeartbeats 6400000 in
theorem zMu (K:Int) (A:Option Addr) (n c:Nat) (L:List Lt) (w:World) (hA:Lets w A n L) (hn:n≤1000) (hK:I64 K) :
  Calls Tryz.prog 50 #[.agg #[D J K,H A n c]] w fun e w'=>e=.returned (W (bA (zCH K L)))∧Below w.heap.size w w':=by
 have aD:=qH hA.len;have hbx:=Boxed.refl w K A n c;have HK:=qH hK;have hok:=hA.fits;have gk:=qH hok;have zK:=zJU hK;have s0:=zAy (Lib.itoa K) [58] (by omega) (by simp);rw [show bA [58]=⟨#[58]⟩ from rfl] at s0;have hst:Hid (bA (Lib.itoa K++[58])=bA (zCH K (L.take 0))):=qH (by unfold zCH zLa;simp);have x0:=hbx.c0;clear hK hok;go_enter Tryz.func50,Tryz.ntmps50;go_wp2_with fail
 refine (zBv K HK.out _).mono ?_;rintro e w1 ⟨rfl,aj⟩;have ab:=hbx.more aj;clear hbx aj x0;go_wp2_with fail
 go_loopw [3,4,5,6] (fun v3 v4 _ _ wr=>∃(i:Nat) (S:ByteArray),i≤n∧v4=D J i∧v3=W S∧Boxed w wr K A n c∧Hid (S=bA (zCH K (L.take i)))) (fun _ v4 _ _ _=>n-(intOf v4).toNat)
 case atStart=>exact ⟨0,_,Nat.zero_le _,rfl,rfl,ab,hst⟩
 case round =>
  obtain ⟨i,S,hi,rfl,rfl,hbr,HS⟩:=hrel;clear hst ab;have x1:=hbr.c1;by_cases hlt:i < n
  ·obtain ⟨gg,o,rfl,hgg,hx,hok⟩:=(hA.below hbr.below).at_ hlt;obtain ⟨y0,y1,y2,y3,y4,y5⟩:=hx;have hil:i < L.length:=by rw [aD.out];exact hlt
   have zw:=zQU hok;have zp:=zOD HK.out (zVn i gk.out);have zt:(L.take i).length≤1000:=by rw [List.length_take];omega
   have i0:(0:Int)≤(i:Int):=by omega
   have i1:(i:Int) < (n:Int):=by omega
   have s1:=zAy (zCH K (L.take i)) [32] (by omega) (by simp);have s2:=zAy (zCH K (L.take i)++[32]) (ltS (la L i)) (by simp;omega) (by omega);rw [show bA [32]=⟨#[32]⟩ from rfl] at s1;rw [←HS.out] at s1;obtain ⟨ZZ,hD⟩:∃ZZ,ZZ=bA (zCH K (L.take i)++[32]):=⟨_,rfl⟩
   obtain ⟨ZT,hE⟩:∃ZT,ZT=bA ((zCH K (L.take i)++[32])++ltS (la L i)):=⟨_,rfl⟩
   obtain ⟨ZR,hW⟩:∃ZR,ZR=bA (ltS (la L i)):=⟨_,rfl⟩
   rw [←hE,←hD,←hW] at s2;rw [←hD] at s1;have du:=qH (show ZT=bA (zCH K (L.take (i+1))) by rw [hE,zMt hil];simp);have HW:=qH hW;have aZ:=qH (show I64 (la L i).gate∧I64 (la L i).rank∧I64 (la L i).id from ⟨hok.gate,hok.rank,hok.id⟩);obtain ⟨kind,hk⟩:∃k,(la L i).kind=k:=⟨_,rfl⟩
   obtain ⟨gate,hg⟩:∃k,(la L i).gate=k:=⟨_,rfl⟩
   obtain ⟨rank,hr⟩:∃k,(la L i).rank=k:=⟨_,rfl⟩
   obtain ⟨id,hid⟩:∃k,(la L i).id=k:=⟨_,rfl⟩
   obtain ⟨sign,hs⟩:∃k,(la L i).sign=k:=⟨_,rfl⟩
   obtain ⟨over,ho⟩:∃k,(la L i).over=k:=⟨_,rfl⟩
   have hl:la L i=⟨kind,gate,rank,id,sign,over⟩:=by rw [←hk,←hg,←hr,←hid,←hs,←ho]
   rw [hk] at y0;rw [hg] at y1;rw [hr] at y2;rw [hid] at y3;rw [hs] at y4;rw [ho] at y5;rw [hg,hr,hid] at aZ;rw [hl] at HW;have zG:=zJU aZ.out.1;have zR:=zJU aZ.out.2.1;have zI:=zJU aZ.out.2.2;clear HS hD hE hW zw zp zt hok hk hg hr hid hs ho hl;go_upto_region 6 with fail
   obtain ⟨X,hX⟩:∃X,X=wr.alloc (.cells #[D J kind,D J gate,D J rank,D J id,D J sign,G over] 76):=⟨_,rfl⟩
   rw [←hX];have hk0:Blk X wr.heap.size 76 #[D J kind,D J gate,D J rank,D J id,D J sign,G over]:=by rw [hX];exact Blk.new _ _ _
   have aJ:Boxed w X K (Z ⟨gg,o,U⟩) n c:=by rw [hX];exact hbr.alloc _
   have mC:=hk0.lt;clear hX y0 y1 y2 y3 y4 y5 x1 hbr;obtain ⟨c0,c1,c2,c3⟩:=cQ4 hk0;by_cases k1:kind=1
   ·have q1:(kind==1)=Q:=by simpa using k1
    have q2:(kind==2)=E:=by simp;omega
    have hf:=show ZR=bA (Lib.itoa gate++46 :: Lib.itoa rank) by rw [HW.out];unfold ltS;rw [if_pos k1];simp
    have t1:=zAy (Lib.itoa gate) [46] (by omega) (by simp);have t2:=zAy (Lib.itoa gate++[46]) (Lib.itoa rank) (by simp;omega) (by omega);rw [show bA [46]=⟨#[46]⟩ from rfl] at t1;rw [hf] at s2;clear k1 zI zG zR HW hf;have KP:=qH (show ∀wx,Below X.heap.size X wx→(Below X.heap.size X wx∧wx.cell? ⟨wr.heap.size,1,U⟩=Z (D J gate)∧wx.cell? ⟨wr.heap.size,2,U⟩=Z (D J rank)) from fun wx h=>⟨h,(h.cell (p:=⟨wr.heap.size,1,U⟩) mC).trans c1,(h.cell (p:=⟨wr.heap.size,2,U⟩) mC).trans c2⟩);go_wp2_with fail
    first
     | go_region_held3 (fun wx=>Below X.heap.size X wx∧wx.cell? ⟨wr.heap.size,1,U⟩=Z (D J gate)∧wx.cell? ⟨wr.heap.size,2,U⟩=Z (D J rank)) (first | assumption | exact KP.out _ (Below.refl _ _).drew | exact KP.out _ (zAa (And.left (by assumption)) (by assumption) (Below.size (And.left (by assumption)))))
       (first
        | (go_at_call 78;refine (zBv gate aZ.out.1 _).mono ?_;rintro e wx ⟨rfl,ai⟩)
        | (go_at_call 78;refine (zBv rank aZ.out.2.1 _).mono ?_;rintro e wx ⟨rfl,ai⟩))
     | fail
    all_goals
     have hbf:=And.left (show Below X.heap.size X _∧_ by assumption);have e0:World.cell? _ ⟨wr.heap.size,0,U⟩=Z (D J kind):=((hk0.below hbf mC).cell 0).trans rfl;clear hk0;have jc:=aJ.more hbf;clear aJ;go_wp2_with fail
     go_roundw
     case rel=>exact ⟨i+1,ZT,by omega,by go_num,rfl,jc,du⟩
     case measure=>simp [intOf];omega
   ·have q1:(kind==1)=E:=by simpa using k1
    by_cases k2:kind=2
    ·have q2:(kind==2)=Q:=by simpa using k2
     have t1:=zAy (Lib.itoa id) [117] (by omega) (by simp);have t2:=zAy (Lib.itoa id) [111] (by omega) (by simp);have t3:=zAy (Lib.itoa id++[117]) [43] (by simp;omega) (by simp);have t4:=zAy (Lib.itoa id++[117]) [45] (by simp;omega) (by simp);have t5:=zAy (Lib.itoa id++[117]) [63] (by simp;omega) (by simp);have t6:=zAy (Lib.itoa id++[111]) [43] (by simp;omega) (by simp);have t7:=zAy (Lib.itoa id++[111]) [45] (by simp;omega) (by simp);have t8:=zAy (Lib.itoa id++[111]) [63] (by simp;omega) (by simp);rw [show bA [117]=⟨#[117]⟩ from rfl] at t1;rw [show bA [111]=⟨#[111]⟩ from rfl] at t2;rw [show bA [43]=⟨#[43]⟩ from rfl] at t3 t6;rw [show bA [45]=⟨#[45]⟩ from rfl] at t4 t7;rw [show bA [63]=⟨#[63]⟩ from rfl] at t5 t8;clear zG zR zI c1 c2
     cases over with
     | false =>
      rcases zNx sign with ⟨n1,hS⟩ | ⟨n1,n2,hS⟩ | ⟨n1,n2,hS⟩
      all_goals
       have hf:=show ZR=bA (Lib.itoa id++[ovC E,sgC sign]) by rw [HW.out];unfold ltS;rw [if_neg k1,if_pos k2];simp
       rw [hS,show ovC E=117 from rfl] at hf;rw [hf] at s2;clear hS hf HW;go_wp2_with fail
       refine (zBv id aZ.out.2.2 _).mono ?_;rintro e w2 ⟨rfl,ac⟩;have hk2:=hk0.below ac mC;obtain ⟨-,-,-,-,d4,d5⟩:=cQ6 hk2;clear hk2 hk0;have jc:=aJ.more ac;clear aJ;go_wp2_with fail
       go_roundw
       case rel=>exact ⟨i+1,ZT,by omega,by go_num,rfl,jc,du⟩
       case measure=>simp [intOf];omega
     | true =>
      rcases zNx sign with ⟨n1,hS⟩ | ⟨n1,n2,hS⟩ | ⟨n1,n2,hS⟩
      all_goals
       have hf:=show ZR=bA (Lib.itoa id++[ovC Q,sgC sign]) by rw [HW.out];unfold ltS;rw [if_neg k1,if_pos k2];simp
       rw [hS,show ovC Q=111 from rfl] at hf;rw [hf] at s2;clear hS hf HW;go_wp2_with fail
       refine (zBv id aZ.out.2.2 _).mono ?_;rintro e w2 ⟨rfl,ac⟩;have hk2:=hk0.below ac mC;obtain ⟨-,-,-,d3,-,d5⟩:=cQ6 hk2;have zB:=hk2.lt;go_wp2_with fail
       refine (zBv id aZ.out.2.2 _).mono ?_;rintro e w3 ⟨rfl,ah⟩;have e4:w3.cell? ⟨wr.heap.size,4,U⟩=Z (D J sign):=((hk2.below ah zB).cell 4).trans rfl;have ai:=ac.trans (ah.mono ac.size);clear d3 d5 hk2 hk0;have jc:=aJ.more ai;clear aJ;go_wp2_with fail
       go_roundw
       case rel=>exact ⟨i+1,ZT,by omega,by go_num,rfl,jc,du⟩
       case measure=>simp [intOf];omega
    ·have q2:(kind==2)=E:=by simpa using k2
     have hf:=show ZR=bA [63] by rw [HW.out];unfold ltS;rw [if_neg k1,if_neg k2]
     rw [hf,show bA [63]=⟨#[63]⟩ from rfl] at s2;have ac:=Below.refl X.heap.size X;clear k1 k2 zG zR zI HW hf;have jc:=aJ.more ac;clear aJ;go_wp2_with fail
     go_roundw
     case rel=>exact ⟨i+1,ZT,by omega,by go_num,rfl,jc,du⟩
     case measure=>simp [intOf];omega
  ·have hin:i=n:=by omega
   have hS:=HS.out;rw [hin,List.take_of_length_le (by rw [aD.out];exact Nat.le_refl _)] at hS;have du:=qH hS;have i1:¬(i:Int) < (n:Int):=by omega
   clear hS hin HS;go_wp2_with fail
   go_ret;exact ⟨by rw [←du.out];rfl,hbr.below⟩
def exP:List UInt8:=[49,48,58,32,49,46,49,32,48,46,49,32,49,117,43,32,57,46,49,32,49,48,46,49,32,49,111,43]
theorem zSQ:zCH 10 (exL 1)=exP:=by kernel_rfl
def fgC (f:Fg):List Value:=[D J f.p,G f.r,D J f.d]
theorem zTG:(Tryz.prog.info? 90).map (fun i=>(i.zero,i.size,i.bytes))=Z (Z (.agg #[D J 0,G E,D J 0]),3,24):=by kernel_rfl
theorem zXV (p d:Int) (r:Bool) (w:World):(Instr.buildSlice 22 1 #[(0,.agg #[D J p,G r,D J d])]).run Tryz.prog w=.ok (H (Z ⟨w.heap.size,0,U⟩) 1 1) (w.alloc (.cells #[D J p,G r,D J d] 90)):=by
 obtain ⟨i0,hi,aQ,az,bi⟩:=info_parts zTG;refine run_buildSlice w _ _ 1 _ _ i0 _ Tryz.underlying22 hi aQ (by rw [az];omega) (by rw [az];omega) ?_;rw [az]
 kernel_rfl
theorem zWM {w:World} {ops:Array Oper} {rest:List Oper} {o:Oper} {a:Act} {Q':Exit→Act→World→Prop} (hgd:o.guard=U) (s x:Operand)
  (ho:o.op=.call { callee:=.builtin .append,args:=#[s,x],argTypes:=#[22,22] })
  {base:Nat} {A:Option Addr} {n c:Nat} {L:List Fg} (hst:Row w base 3 A n c (L.flatMap fgC)) (f:Fg) (hs:a.eval s=H A n c)
  (ZW:Nat) (hH:w.heap.size=ZW) (hx:a.eval x=H (Z ⟨ZW,0,U⟩) 1 1) (N:Nat) (hN:n+1=N) (hn:N≤1000000) (hbase:base≤w.heap.size)
  (h:∀A' c' w',Row w' base 3 A' N c' ((L++[f]).flatMap fgC)→w.grownBy w' (blk A)→(∀k,blk A'=Z k→blk A=Z k∨w.heap.size≤k)→wpList Tryz.prog ops Q' rest (a.put o.dst (H A' N c')) w') :
  wpList Tryz.prog ops Q' (o :: rest) a (w.alloc (.cells #[D J f.p,G f.r,D J f.d] 90)):=by
 subst hH;obtain ⟨i0,hi,aQ,az,bi⟩:=info_parts zTG
 refine zPn hgd s x 22 ho 90 i0 _ 3 24 Tryz.underlying22 hi aQ az bi rfl (by decide) (hst.alloc _) (Src.new (m:=1) (cs:=fgC f) rfl)
  (by intro u hu;simp [fgC] at hu;rcases hu with rfl | rfl | rfl<;>rfl) hs hx N hN (by unfold maxLen;omega) (by omega) (by simp;omega) ?_
 intro A' c' w' h1 h2 h3 _;refine h A' c' w' (by rw [List.flatMap_append];simpa using h1) (zAb (World.grownBy_alloc w _ _) h2) (fun k hk=>?_);rcases h3 k hk with h | h
 ·exact .inl h
 ·right;simp at h;omega
theorem zWN {i:Nat} (h:i < 5):(stdF.take i)++[⟨1,E,(i:Int)+1⟩]=stdF.take (i+1):=by
 rcases i with _ | _ | _ | _ | _ | i<;>first | rfl | omega
theorem zSR {i:Nat} (h:i < 5):(stdF.take (5+i))++[⟨1,Q,5-(i:Int)⟩]=stdF.take (5+i+1):=by
 rcases i with _ | _ | _ | _ | _ | i<;>first | rfl | omega
structure FbW (Y w:World) (oB:Nat) (re lo:Int) (A:Option Addr) (n c:Nat) (L:List Fg):Prop where
 own:Row w Y.heap.size 3 A n c (L.flatMap fgC)
 bk:Blk w oB 24 #[H A n c,D J re,D J lo]
 far:∀q,blk A=Z q→q≠oB
 old:Below Y.heap.size Y w
theorem FbW.pushed {Y w w':World} {oB:Nat} {re lo:Int} {A A':Option Addr} {n c N c':Nat} {L L':List Fg} (h:FbW Y w oB re lo A n c L) (hY:Y.heap.size≤oB) (hown:Row w' Y.heap.size 3 A' N c' (L'.flatMap fgC)) (hg:w.grownBy w' (blk A)) (hl:∀k,blk A'=Z k→blk A=Z k∨w.heap.size≤k) :
  Blk w' oB 24 #[H A n c,D J re,D J lo]∧FbW Y (w'.setCell ⟨oB,0,U⟩ (H A' N c')) oB re lo A' N c' L':=by
 have hb:Blk w' oB 24 #[H A n c,D J re,D J lo]:=h.bk.grown hg (fun e=>h.far oB e.symm rfl);have hf:∀q,blk A'=Z q→q≠oB:=fun q hq=>by
  rcases hl q hq with e | e
  ·exact h.far q e
  ·have:=h.bk.lt;omega
 have hold:Below Y.heap.size Y w':=h.old.trans ((Below.refl _ _).grown hg h.old.size (fun k hk=>(h.own.lt k hk).1));exact ⟨hb,⟨hown.farSet 0 _ hf,hb.set_ 0 _,hf,hold.setCell (p:=⟨oB,0,U⟩) hY _⟩⟩
theorem zXm (w:World):(Instr.build 24 #[(1,D J 6),(2,D J 4)]).run Tryz.prog w=.ok (.agg #[H U 0 0,D J 6,D J 4]) w:=run_build w _ _ _ (by kernel_rfl)
theorem zWO (p d:Int) (w:World):(Instr.build 90 #[(0,D J p),(2,D J d)]).run Tryz.prog w=.ok (.agg #[D J p,G E,D J d]) w:=run_build w _ _ _ (by kernel_rfl)
theorem zWP (p d:Int) (w:World):(Instr.build 90 #[(0,D J p),(1,G Q),(2,D J d)]).run Tryz.prog w=.ok (.agg #[D J p,G Q,D J d]) w:=run_build w _ _ _ (by kernel_rfl)
set_option maxHeartbeats 6400000 in
set_option maxRecDepth 100000 in
theorem zJV (w:World):Calls Tryz.prog 49 #[D J 1] w fun e w'=>∃A c,e=.returned (frV A 10 c 6 4)∧Row w' w.heap.size 3 A 10 c (stdF.flatMap fgC)∧Below w.heap.size w w':=by
 have aa:Below w.heap.size w (w.alloc (.cells #[H U 0 0,D J 0,D J 0] 24)):=(Below.refl _ _).alloc (Nat.le_refl _) _;have hk0:Blk (w.alloc (.cells #[H U 0 0,D J 0,D J 0] 24)) w.heap.size 24 #[H U 0 0,D J 0,D J 0]:=Blk.new _ _ _;go_enter Tryz.func49,Tryz.ntmps49;go_upto_region 1 with fail
 generalize w.alloc (.cells #[H U 0 0,D J 0,D J 0] 24)=Y at aa hk0 ⊢;have c8:FbW Y (Y.alloc (.cells #[H U 0 0,D J 6,D J 4] 24)) Y.heap.size 6 4 U 0 0 (stdF.take 0):=⟨Row.none_ _ _ _,Blk.new _ _ _,fun q hq=>(by cases hq),(Below.refl _ _).alloc (Nat.le_refl _) _⟩;go_upto_region 2 with fail
 generalize hZ:Y.alloc (.cells #[H U 0 0,D J 6,D J 4] 24)=ZU at c8 ⊢;clear hZ;obtain ⟨oB,rE⟩:∃a,Y.heap.size=a:=⟨_,rfl⟩
 have tx:Y.heap.size≤oB:=by omega
 rw [rE];have c8:FbW Y ZU oB 6 4 U 0 0 (stdF.take 0):=by rw [←rE];exact c8
 clear rE;go_wp2_with fail
 go_loopw [4] (fun v4 wv=>∃(i:Nat) (p:Int) (X:World) (A1:Option Addr) (c1:Nat),X=wv∧i≤1∧v4=D J p∧Hid (p=(i:Int)+1)∧FbW Y X oB 6 4 A1 (10*i) c1 (stdF.take (10*i))) (fun v4 _=>2-(intOf v4).toNat)
 case atStart=>exact ⟨0,1,_,U,0,rfl,by omega,rfl,qH rfl,c8⟩
 case round =>
  obtain ⟨i,p,X,A1,c1,hX,hi,rfl,HP,hW⟩:=hrel;subst hX;clear c8;by_cases hlt:i < 1
  ·obtain rfl:i=0:=by omega
   obtain rfl:p=1:=HP.out;clear HP;have c8:FbW Y X oB 6 4 A1 0 c1 (stdF.take 0):=hW;clear hW;go_wp2_with fail
   go_loopw [5] (fun v5 wv=>∃(j:Nat) (q:Int) (X:World) (A1:Option Addr) (c1:Nat),X=wv∧j≤5∧v5=D J q∧Hid (q=(j:Int)+1)∧FbW Y X oB 6 4 A1 j c1 (stdF.take j)) (fun v5 _=>6-(intOf v5).toNat)
   case atStart=>exact ⟨0,1,_,A1,c1,rfl,by omega,rfl,qH rfl,c8⟩
   case round =>
    obtain ⟨j,q,X,A1,c1,hX,hj,rfl,HQ,hW⟩:=hrel;subst hX;clear c8;by_cases hjt:j < 5
    ·have j1:q≤5:=by have:=HQ.out;omega
     have j2:0≤q:=by have:=HQ.out;omega
     have AA:=qH (show stdF.take j++[⟨1,E,q⟩]=stdF.take (j+1) by rw [HQ.out];exact zWN hjt);have o0:X.cell? ⟨oB,0,U⟩=Z (H A1 j c1):=(hW.bk.cell 0).trans rfl;have aJ:Y.heap.size≤X.heap.size:=hW.old.size;have zZ:j+1≤1000000:=by omega
     go_upto_region 9 with (at_builtin;refine zGT ?_)
     refine qH ?_;refine zWM (base:=Y.heap.size) (A:=A1) (n:=j) (c:=c1) (L:=stdF.take j) rfl (.tmp 18) (.tmp 22) ?_ ?_ ⟨1,E,q⟩ ?_ X.heap.size rfl ?_ (j+1) rfl zZ aJ ?_
     ·rfl
     ·exact hW.own
     ·rfl
     ·rfl
     intro A2 c2 w9 eZ bx hl9';obtain ⟨fE,dC⟩:=hW.pushed tx eZ bx hl9';have p1:w9.cell? ⟨oB,0,U⟩=Z (H A1 j c1):=(fE.cell 0).trans rfl;have z1:=fE.frozen 0;rw [AA.out] at dC;have nc:=qH dC;clear hW eZ bx hl9' dC fE o0;go_wp2_with fail
     go_roundw
     case rel=>exact ⟨j+1,q+1,_,A2,c2,rfl,by omega,by go_num,qH (by rw [HQ.out];omega),nc.out⟩
     case measure=>simp [intOf];omega
    ·obtain rfl:j=5:=by omega
     obtain rfl:q=6:=HQ.out;clear HQ;have dx:FbW Y X oB 6 4 A1 (5+0) c1 (stdF.take (5+0)):=hW;clear hW;go_wp2_with fail
     go_loopw [6] (fun v6 wv=>∃(j:Nat) (X:World) (A1:Option Addr) (c1:Nat),X=wv∧j≤5∧v6=D J (5-(j:Int))∧FbW Y X oB 6 4 A1 (5+j) c1 (stdF.take (5+j))) (fun v6 _=>(intOf v6).toNat)
     case atStart=>exact ⟨0,_,A1,c1,rfl,by omega,by rfl,dx⟩
     case round =>
      obtain ⟨j,X,A1,c1,hX,hj,rfl,hW⟩:=hrel;subst hX;clear dx;by_cases hjt:j < 5
      ·have j1:(1:Int)≤5-(j:Int):=by omega
       have AA:=qH (zSR hjt);have o0:X.cell? ⟨oB,0,U⟩=Z (H A1 (5+j) c1):=(hW.bk.cell 0).trans rfl;have aJ:Y.heap.size≤X.heap.size:=hW.old.size;have zZ:5+j+1≤1000000:=by omega
       go_upto_region 13 with (at_builtin;refine zGT ?_)
       refine qH ?_;refine zWM (base:=Y.heap.size) (A:=A1) (n:=5+j) (c:=c1) (L:=stdF.take (5+j)) rfl (.tmp 30) (.tmp 34) ?_ ?_ ⟨1,Q,5-(j:Int)⟩ ?_ X.heap.size rfl ?_ (5+j+1) rfl zZ aJ ?_
       ·rfl
       ·exact hW.own
       ·rfl
       ·rfl
       intro A2 c2 w9 eZ bx hl9';obtain ⟨fE,dC⟩:=hW.pushed tx eZ bx hl9';have p1:w9.cell? ⟨oB,0,U⟩=Z (H A1 (5+j) c1):=(fE.cell 0).trans rfl;have z1:=fE.frozen 0;rw [AA.out] at dC;have nc:=qH dC;clear hW eZ bx hl9' dC fE o0;go_wp2_with fail
       go_roundw
       case rel=>exact ⟨j+1,_,A2,c2,rfl,by omega,by go_num,nc.out⟩
       case measure=>simp [intOf];omega
      ·obtain rfl:j=5:=by omega
       have nF:=qH (show FbW Y X oB 6 4 A1 (10*(0+1)) c1 (stdF.take (10*(0+1))) from hW);clear hW;go_wp2_with fail
       go_roundw
       case rel=>exact ⟨0+1,2,_,A1,c1,rfl,by omega,by go_num,qH rfl,nF.out⟩
       case measure=>simp [intOf]
  ·obtain rfl:i=1:=by omega
   obtain rfl:p=2:=HP.out;clear HP;have vG:w.heap.size < Y.heap.size:=hk0.lt;have eY:=hk0.below hW.old vG;have e0:X.cell? ⟨oB,0,U⟩=Z (H A1 (10*1) c1):=(hW.bk.cell 0).trans rfl;have e1:X.cell? ⟨oB,1,U⟩=Z (D J 6):=(hW.bk.cell 1).trans rfl;have e2:X.cell? ⟨oB,2,U⟩=Z (D J 4):=(hW.bk.cell 2).trans rfl;obtain ⟨r0,r1,r2⟩:=cQ3 eY;have z0:=eY.frozen 0;have z1:=eY.frozen 1;have z2:=eY.frozen 2;have js:=qH eY;have HW:=qH hW;have nM:=aa.size;clear hlt hW eY;go_wp2_with fail
   have hS:Blk (((X.setCell ⟨w.heap.size,0,U⟩ (H A1 (10*1) c1)).setCell ⟨w.heap.size,1,U⟩ (D J 6)).setCell ⟨w.heap.size,2,U⟩ (D J 4)) w.heap.size 24 #[H A1 (10*1) c1,D J 6,D J 4]:=((js.out.set_ 0 _).set_ 1 _).set_ 2 _;have gS:=zAk (zAk (zAk (World.grownBy.refl X (Z w.heap.size)) (p:=⟨w.heap.size,0,U⟩) (.inl rfl) (H A1 (10*1) c1)) (p:=⟨w.heap.size,1,U⟩) (.inl rfl) (D J 6)) (p:=⟨w.heap.size,2,U⟩) (.inl rfl) (D J 4);have gP:=(((zAa aa HW.out.old nM).setCell (p:=⟨w.heap.size,0,U⟩) (Nat.le_refl _) (H A1 (10*1) c1)).setCell (p:=⟨w.heap.size,1,U⟩) (Nat.le_refl _) (D J 6)).setCell (p:=⟨w.heap.size,2,U⟩) (Nat.le_refl _) (D J 4);have vL:Row (((X.setCell ⟨w.heap.size,0,U⟩ (H A1 (10*1) c1)).setCell ⟨w.heap.size,1,U⟩ (D J 6)).setCell ⟨w.heap.size,2,U⟩ (D J 4)) w.heap.size 3 A1 10 c1 (stdF.flatMap fgC):=by
    refine (HW.out.own.kept gS ?_).mono nM
    cases hb:blk A1 with
    | none=>exact .inl rfl
    | some q=>exact .inr (by have:=(HW.out.own.lt q hb).1;simp;omega)
   (try simp only [Exit.inBlock,Exit.then])
   refine zAH rfl rfl hS Tryz.underlying24 rfl (by kernel_rfl) rfl ?_;exact ⟨A1,c1,rfl,vL,gP⟩
theorem Stps.one (w:World) (x:Sp) (hx:SgOk x.s) (t:TypeId) :
  Stps (w.alloc (.cells #[D J x.s.f,D J x.s.l,G x.s.far,D J x.s.pc,G x.over] t)) (Z ⟨w.heap.size,0,U⟩) 1 [x]:=by
 refine ⟨⟨rfl,by omega,fun _=>⟨_,_,rfl,by simp,fun j y hy q v hv=>?_⟩⟩,fun e he=>?_⟩
 ·rcases j with _ | j
  ·simp only [List.getElem?_cons_zero,Option.some.injEq] at hy;subst hy;rw [Nat.zero_mul,Nat.add_zero,Nat.zero_add,World.cell?_alloc_at _ _ _ _ rfl,←Array.getElem?_toList];exact hv
  ·simp at hy
 ·obtain rfl:e=x:=by simpa using he
  exact hx
theorem zDy {x:Int} (h0:0≤x) (h1:x≤1000000):I64 x:=⟨by omega,by omega⟩
theorem zWQ:∀x∈stdF,FgOk x:=fun x hx=>by
 simp only [stdF,List.mem_cons,List.not_mem_nil,or_false] at hx;rcases hx with rfl | rfl | rfl | rfl | rfl | rfl | rfl | rfl | rfl | rfl<;>exact ⟨⟨by decide,by decide⟩,⟨by decide,by decide⟩⟩
theorem zWR:OgOk exO:=⟨zDy (by decide) (by decide),zDy (by decide) (by decide),⟨zDy (by decide) (by decide),zDy (by decide) (by decide),zDy (by decide) (by decide)⟩⟩
theorem zWS (w:World):(Instr.build 29 #[(0,D J 5),(1,D J 1)]).run Tryz.prog w=.ok (.agg #[D J 5,D J 1,G E,D J 0]) w:=run_build w _ _ _ (by kernel_rfl)
theorem zWT (w:World):(Instr.build 29 #[(0,D J 6),(1,D J 1)]).run Tryz.prog w=.ok (.agg #[D J 6,D J 1,G E,D J 0]) w:=run_build w _ _ _ (by kernel_rfl)
theorem zWU (w:World):(Instr.build 86 #[(0,.agg #[D J 6,D J 1,G E,D J 0]),(1,G Q)]).run Tryz.prog w=.ok (.agg #[D J 6,D J 1,G E,D J 0,G Q]) w:=run_build w _ _ _ (by kernel_rfl)
theorem zVo:(Tryz.prog.info? 86).map (fun i=>(i.zero,i.size,i.bytes))=Z (Z (.agg #[D J 0,D J 0,G E,D J 0,G E]),5,40):=by kernel_rfl
theorem zWV (w:World):(Instr.buildSlice 30 1 #[(0,.agg #[D J 6,D J 1,G E,D J 0,G Q])]).run Tryz.prog w=.ok (H (Z ⟨w.heap.size,0,U⟩) 1 1) (w.alloc (.cells #[D J 6,D J 1,G E,D J 0,G Q] 86)):=by
 obtain ⟨i0,hi,aQ,az,bi⟩:=info_parts zVo;refine run_buildSlice w _ _ 1 _ _ i0 _ Tryz.underlying30 hi aQ (by rw [az];omega) (by rw [az];omega) ?_;rw [az]
 kernel_rfl
theorem zWW (A:Option Addr) (w:World):(Instr.build 32 #[(0,D J 3),(1,D J 9),(2,.agg #[D J 5,D J 1,G E,D J 0]),(3,H A 1 1)]).run Tryz.prog w=.ok (.agg #[D J 3,D J 9,D J 5,D J 1,G E,D J 0,H A 1 1,G E]) w:=run_build w _ _ _ (by kernel_rfl)
section
variable {A:Option Addr} {c:Nat} {w:World}
theorem zSS (hA:Fgs w A 10 stdF) (hc:10≤c) (B:Option Addr) (hO:OpIn w exO B 1 1) (ht:Tabs w) :
  Calls Tryz.prog 41 #[frV A 10 c 6 4,opV exO B 1 1] w fun e w'=>e=.returned (.tuple #[W (bA zXS),D J 0])∧Below w.heap.size w w':=by
 have h:=zLI A 10 c stdF 6 4 exO B 1 1 w hA hc hO (by omega) ht;rw [zNu.1,if_pos rfl,zNu.2] at h;exact h
theorem zST (hA:Fgs w A 10 stdF) (hc:10≤c) (ht:Tabs w) :
  Calls Tryz.prog 40 #[frV A 10 c 6 4,W (bA zNt),D J 2,D J 1] w fun e w'=>e=.returned (.tuple #[W (bA zXT),D J 0])∧Below w.heap.size w w':=by
 have h:=zIg ⟨A,10,c,stdF,6,4⟩ zNt 2 1 w hA hc ht;simp only at h;rw [zNw.1,zNw.2] at h;exact h
theorem zSU (hA:Fgs w A 10 stdF) (hc:10≤c) (ht:Tabs w) :
  Calls Tryz.prog 37 #[frV A 10 c 6 4,W (bA exS)] w (zSE w 10 [exL 1] 0):=by
 have h:=zFM ⟨A,10,c,stdF,6,4⟩ exS w hA hc ht;simp only at h;rw [zXP] at h;exact h
theorem zNy (S:List UInt8) (ZT:Int) (hE:zEU stdF S=ZT) (hS:S.length≤8000) (hA:Fgs w A 10 stdF) (hc:10≤c) (ht:Tabs w) :
  Calls Tryz.prog 17 #[frV A 10 c 6 4,W (bA S)] w fun e w'=>∃(o:Og) (B:Option Addr) (m d:Nat),e=.returned (.tuple #[opV o B m d,D J ZT])∧Below w.heap.size w w':=by
 have h:=zHZ ⟨A,10,c,stdF,6,4⟩ S w hA hc ht;refine h.mono ?_;rintro e w' ⟨B,m,d,he,_,_,hb⟩;refine ⟨rdO stdF 6 4 S,B,m,d,?_,hb⟩;rw [he];have h0:zAS stdF 6 4 S=0:=by unfold zAS;rw [if_pos (by decide),if_neg (by omega)]
 have:rdE stdF 6 4 S=ZT:=by unfold rdE;rw [if_pos h0,hE]
 simp only;rw [this]
theorem zSV (hA:Fgs w A 10 stdF) (hc:10≤c) {B:Option Addr} {m d:Nat} (hB:Lets w B m (exL 1)) (ht:Tabs w) :
  Calls Tryz.prog 33 #[frV A 10 c 6 4,.agg #[D J 10,H B m d]] w fun e w'=>e=.returned (.tuple #[W (bA exS),D J 0])∧Below w.heap.size w w':=by
 have h:=zEF A 10 c stdF 6 4 10 B m d (exL 1) w hA hc hB ht;rw [zTE.1,zTE.2] at h;exact h
theorem zSW {B:Option Addr} {m d:Nat} (hB:Lets w B m (exL 1)) :
  Calls Tryz.prog 50 #[.agg #[D J 10,H B m d]] w fun e w'=>e=.returned (W (bA exP))∧Below w.heap.size w w':=by
 have h:=zMu 10 B m d (exL 1) w hB (by have:=hB.len;simp [exL] at this;omega) (zDy (by decide) (by decide));rw [zSQ] at h;exact h
end
theorem zSX {w:World} {base:Nat} {B:Option Addr} {m d:Nat} {Es:List Ce} (h:CodesOwn w base 10 B m d Es) (hE:List.map (fun x:Ce=>x.L) Es=[exL 1]) :
  m=1∧∃(g o:Nat) (e:Ce),B=Z ⟨g,o,U⟩∧g < w.heap.size∧w.cell? ⟨g,o,U⟩=Z (D J 10)∧w.cell? ⟨g,o+1,U⟩=Z (H e.A e.n e.c)∧Lets w e.A e.n (exL 1):=by
 have hl:=h.len;rcases Es with _ | ⟨e,_ | ⟨e2,Es⟩⟩
 ·simp at hE
 ·simp only [List.map_cons,List.map_nil,List.cons.injEq,and_true] at hE;obtain rfl:m=1:=hl.symm;obtain ⟨g,o,rfl,_,hlt⟩:=h.row.form (by omega);have hL:=(h.ok e (List.mem_singleton.2 rfl)).1;rw [hE] at hL;exact ⟨rfl,g,o,e,rfl,hlt,h.row.cell (j:=0) rfl,h.row.cell (j:=1) rfl,hL⟩
 ·simp at hE
set_option maxRecDepth 100000 in
set_option maxHeartbeats 12800000 in
theorem zFN (w:World) (ht:Tabs w):Calls Tryz.prog 16 #[] w fun e w'=>e=.returned (G Q)∧Below w.heap.size w w':=by
 have HT:=qH ht;clear ht;go_enter Tryz.func16,Tryz.ntmps16;go_wp2_with fail
 refine (zJV _).mono ?_;rintro e w1 ⟨A,c,rfl,hrow,hb⟩;have hcap:10≤c:=hrow.cap;have HF:=qH (show Fgs w1 A 10 stdF from ⟨(show Row w1 w.heap.size 3 A 10 c (stdF.flatMap zXu) from hrow).els (fun _=>rfl) (by omega) (by omega),zWQ⟩);replace HT:=qH (HT.out.below hb);have HB:=qH hb;have np:=qH hcap;clear hrow hb hcap;have hba:=(Below.refl w1.heap.size w1).alloc (Nat.le_refl _) (.cells #[H A 10 c,D J 6,D J 4] 24);replace HF:=qH (HF.out.below hba);replace HT:=qH (HT.out.below hba);replace HB:=qH (zAa HB.out hba HB.out.size);have kf:=Blk.new w1 24 #[H A 10 c,D J 6,D J 4];clear hba;go_upto_region 2 with fail
 generalize w1.alloc (.cells #[H A 10 c,D J 6,D J 4] 24)=X1 at HF HT HB kf ⊢;have hba:=(Below.refl X1.heap.size X1).alloc (Nat.le_refl _) (.cells #[D J 6,D J 1,G E,D J 0,G Q] 86);replace HF:=qH (HF.out.below hba);replace HT:=qH (HT.out.below hba);replace HB:=qH (zAa HB.out hba HB.out.size);replace kf:=kf.below hba kf.lt;have HP:=qH (Stps.one X1 ⟨⟨6,1,E,0⟩,Q⟩ ⟨zDy (by decide) (by decide),zDy (by decide) (by decide),zDy (by decide) (by decide)⟩ 86);have ko:Blk ((X1.alloc (.cells #[D J 6,D J 1,G E,D J 0,G Q] 86)).alloc (.cells #[D J 3,D J 9,D J 5,D J 1,G E,D J 0,H (Z ⟨X1.heap.size,0,U⟩) 1 1,G E] 32)) (X1.heap.size+1) 32 #[D J 3,D J 9,D J 5,D J 1,G E,D J 0,H (Z ⟨X1.heap.size,0,U⟩) 1 1,G E]:=heap_alloc2_new X1 _ _;clear hba;have hba:=(Below.refl (X1.alloc (.cells #[D J 6,D J 1,G E,D J 0,G Q] 86)).heap.size (X1.alloc (.cells #[D J 6,D J 1,G E,D J 0,G Q] 86))).alloc (Nat.le_refl _) (.cells #[D J 3,D J 9,D J 5,D J 1,G E,D J 0,H (Z ⟨X1.heap.size,0,U⟩) 1 1,G E] 32);replace HF:=qH (HF.out.below hba);replace HT:=qH (HT.out.below hba);replace HB:=qH (zAa HB.out hba HB.out.size);replace kf:=kf.below hba kf.lt;replace HP:=qH (HP.out.below hba);clear hba;go_upto_region 3 with fail
 generalize (X1.alloc (.cells #[D J 6,D J 1,G E,D J 0,G Q] 86)).alloc (.cells #[D J 3,D J 9,D J 5,D J 1,G E,D J 0,H (Z ⟨X1.heap.size,0,U⟩) 1 1,G E] 32)=X2 at HF HT HB kf HP ko ⊢;obtain ⟨c0,c1,c2⟩:=cQ3 kf;obtain ⟨d0,d1,d2,d3,d4,d5,d6,d7⟩:=cQ8 ko;go_wp2_with fail
 refine (zSS HF.out np.out (Z ⟨X1.heap.size,0,U⟩) ⟨zWR,HP.out,by omega⟩ HT.out).mono ?_;rintro e w2 ⟨rfl,hb⟩;clear c0 c1 c2 d0 d1 d2 d3 d4 d5 d6 d7;replace HF:=qH (HF.out.below hb);replace HT:=qH (HT.out.below hb);replace HB:=qH (zAa HB.out hb HB.out.size);replace kf:=kf.below hb kf.lt;replace HP:=qH (HP.out.below hb);replace ko:=ko.below hb ko.lt;clear hb;clear ko HP;obtain ⟨c0,c1,c2⟩:=cQ3 kf;go_wp2_with fail
 refine (zST HF.out np.out HT.out).mono ?_;rintro e w3 ⟨rfl,hb⟩;clear c0 c1 c2;replace HF:=qH (HF.out.below hb);replace HT:=qH (HT.out.below hb);replace HB:=qH (zAa HB.out hb HB.out.size);replace kf:=kf.below hb kf.lt;clear hb;obtain ⟨c0,c1,c2⟩:=cQ3 kf;go_wp2_with fail
 refine (zSU HF.out np.out HT.out).mono ?_;rintro e w4 ⟨B,m,d,Es,rfl,hE,hm,hO,hb⟩;clear c0 c1 c2;replace HF:=qH (HF.out.below hb);replace HT:=qH (HT.out.below hb);replace HB:=qH (zAa HB.out hb HB.out.size);replace kf:=kf.below hb kf.lt;obtain ⟨rfl,g,o,⟨eL,eA,en,ec⟩,rfl,hg,q0,q1,hL⟩:=zSX hO hE;simp only at q1 hL;have HQ:=qH (show g < w4.heap.size∧w4.cell? ⟨g,o,U⟩=Z (D J 10)∧w4.cell? ⟨g,o+1,U⟩=Z (H eA en ec) from ⟨hg,q0,q1⟩);have HL:=qH hL;clear hE hm hO hb hg q0 q1 hL;obtain ⟨c0,c1,c2⟩:=cQ3 kf;go_wp2_with fail
 refine (zNy zXQ 6 (zVj stdF) (by decide) HF.out np.out HT.out).mono ?_;rintro e w5 ⟨⟨ok,of,⟨off,ofl,ofar,opc⟩,opath,oov⟩,oB,om,od,rfl,hb⟩;simp only;clear c0 c1 c2;replace HF:=qH (HF.out.below hb);replace HT:=qH (HT.out.below hb);replace HB:=qH (zAa HB.out hb HB.out.size);replace kf:=kf.below hb kf.lt;replace HL:=qH (HL.out.below hb);replace HQ:=qH (show g < w5.heap.size∧w5.cell? ⟨g,o,U⟩=Z (D J 10)∧w5.cell? ⟨g,o+1,U⟩=Z (H eA en ec) from ⟨Nat.lt_of_lt_of_le HQ.out.1 hb.size,(hb.cell (p:=⟨g,o,U⟩) HQ.out.1).trans HQ.out.2.1,(hb.cell (p:=⟨g,o+1,U⟩) HQ.out.1).trans HQ.out.2.2⟩);clear hb;have hba:=(Below.refl w5.heap.size w5).alloc (Nat.le_refl _) (.cells #[D J ok,D J of,D J off,D J ofl,G ofar,D J opc,H oB om od,G oov] 32);replace HF:=qH (HF.out.below hba);replace HT:=qH (HT.out.below hba);replace HB:=qH (zAa HB.out hba HB.out.size);replace kf:=kf.below hba kf.lt;replace HL:=qH (HL.out.below hba);replace HQ:=qH (show g < (w5.alloc (.cells #[D J ok,D J of,D J off,D J ofl,G ofar,D J opc,H oB om od,G oov] 32)).heap.size∧(w5.alloc (.cells #[D J ok,D J of,D J off,D J ofl,G ofar,D J opc,H oB om od,G oov] 32)).cell? ⟨g,o,U⟩=Z (D J 10)∧(w5.alloc (.cells #[D J ok,D J of,D J off,D J ofl,G ofar,D J opc,H oB om od,G oov] 32)).cell? ⟨g,o+1,U⟩=Z (H eA en ec) from ⟨Nat.lt_of_lt_of_le HQ.out.1 hba.size,(hba.cell (p:=⟨g,o,U⟩) HQ.out.1).trans HQ.out.2.1,(hba.cell (p:=⟨g,o+1,U⟩) HQ.out.1).trans HQ.out.2.2⟩);clear hba;go_upto_region 7 with fail
 generalize w5.alloc (.cells #[D J ok,D J of,D J off,D J ofl,G ofar,D J opc,H oB om od,G oov] 32)=Z0 at HF HT HB kf HL HQ ⊢;obtain ⟨c0,c1,c2⟩:=cQ3 kf;go_wp2_with fail
 refine (zNy zXR 8 (zVk) (by decide) HF.out np.out HT.out).mono ?_;rintro e w6 ⟨⟨ok,of,⟨off,ofl,ofar,opc⟩,opath,oov⟩,oB,om,od,rfl,hb⟩;simp only;clear c0 c1 c2;replace HF:=qH (HF.out.below hb);replace HT:=qH (HT.out.below hb);replace HB:=qH (zAa HB.out hb HB.out.size);replace kf:=kf.below hb kf.lt;replace HL:=qH (HL.out.below hb);replace HQ:=qH (show g < w6.heap.size∧w6.cell? ⟨g,o,U⟩=Z (D J 10)∧w6.cell? ⟨g,o+1,U⟩=Z (H eA en ec) from ⟨Nat.lt_of_lt_of_le HQ.out.1 hb.size,(hb.cell (p:=⟨g,o,U⟩) HQ.out.1).trans HQ.out.2.1,(hb.cell (p:=⟨g,o+1,U⟩) HQ.out.1).trans HQ.out.2.2⟩);clear hb;have hba:=(Below.refl w6.heap.size w6).alloc (Nat.le_refl _) (.cells #[D J ok,D J of,D J off,D J ofl,G ofar,D J opc,H oB om od,G oov] 32);replace HF:=qH (HF.out.below hba);replace HT:=qH (HT.out.below hba);replace HB:=qH (zAa HB.out hba HB.out.size);replace kf:=kf.below hba kf.lt;replace HL:=qH (HL.out.below hba);replace HQ:=qH (show g < (w6.alloc (.cells #[D J ok,D J of,D J off,D J ofl,G ofar,D J opc,H oB om od,G oov] 32)).heap.size∧(w6.alloc (.cells #[D J ok,D J of,D J off,D J ofl,G ofar,D J opc,H oB om od,G oov] 32)).cell? ⟨g,o,U⟩=Z (D J 10)∧(w6.alloc (.cells #[D J ok,D J of,D J off,D J ofl,G ofar,D J opc,H oB om od,G oov] 32)).cell? ⟨g,o+1,U⟩=Z (H eA en ec) from ⟨Nat.lt_of_lt_of_le HQ.out.1 hba.size,(hba.cell (p:=⟨g,o,U⟩) HQ.out.1).trans HQ.out.2.1,(hba.cell (p:=⟨g,o+1,U⟩) HQ.out.1).trans HQ.out.2.2⟩);clear hba;go_upto_region 8 with fail
 generalize w6.alloc (.cells #[D J ok,D J of,D J off,D J ofl,G ofar,D J opc,H oB om od,G oov] 32)=Z1 at HF HT HB kf HL HQ ⊢;go_upto_region 10 with fail
 go_cut [13,4] (fun v13 v4 wv=>v13=W (bA exS)∧v4=D J 0∧∃V:World,V=wv∧Below Z1.heap.size Z1 V)
 case first =>
  have k0:∀wx,Below Z1.heap.size Z1 wx→(Below Z1.heap.size Z1 wx∧wx.cell? ⟨w1.heap.size,0,U⟩=Z (H A 10 c)∧wx.cell? ⟨w1.heap.size,1,U⟩=Z (D J 6)∧wx.cell? ⟨w1.heap.size,2,U⟩=Z (D J 4)∧wx.cell? ⟨g,o,U⟩=Z (D J 10)∧wx.cell? ⟨g,o+1,U⟩=Z (H eA en ec)):=fun wx h=>⟨h,((kf.below h kf.lt).cell 0).trans rfl,((kf.below h kf.lt).cell 1).trans rfl,((kf.below h kf.lt).cell 2).trans rfl,(h.cell (p:=⟨g,o,U⟩) HQ.out.1).trans HQ.out.2.1,(h.cell (p:=⟨g,o+1,U⟩) HQ.out.1).trans HQ.out.2.2⟩
  have KP:=qH k0;clear k0
  first
   | go_region_held3 (fun wx=>Below Z1.heap.size Z1 wx∧wx.cell? ⟨w1.heap.size,0,U⟩=Z (H A 10 c)∧wx.cell? ⟨w1.heap.size,1,U⟩=Z (D J 6)∧wx.cell? ⟨w1.heap.size,2,U⟩=Z (D J 4)∧wx.cell? ⟨g,o,U⟩=Z (D J 10)∧wx.cell? ⟨g,o+1,U⟩=Z (H eA en ec)) (first | assumption | exact KP.out _ (Below.refl _ _).drew | exact KP.out _ (zAa (And.left (by assumption)) (by assumption) (Below.size (And.left (by assumption)))))
     (first
      | (go_at_call 33;refine (zSV (HF.out.below (And.left (by assumption))) np.out (HL.out.below (And.left (by assumption))) (HT.out.below (And.left (by assumption)))).mono ?_;rintro e zz ⟨rfl,hzz⟩))
   | fail
  all_goals
   have hbf:=And.left (show Below Z1.heap.size Z1 _∧_ by assumption);go_wp2_with fail
   go_meet
   case rel=>exact ⟨rfl,rfl,_,rfl,hbf⟩
 case rest =>
  obtain ⟨rfl,rfl,V,hV,hb⟩:=hcut;subst hV;replace HF:=qH (HF.out.below hb);replace HT:=qH (HT.out.below hb);replace HB:=qH (zAa HB.out hb HB.out.size);replace kf:=kf.below hb kf.lt;replace HL:=qH (HL.out.below hb);replace HQ:=qH (show g < V.heap.size∧V.cell? ⟨g,o,U⟩=Z (D J 10)∧V.cell? ⟨g,o+1,U⟩=Z (H eA en ec) from ⟨Nat.lt_of_lt_of_le HQ.out.1 hb.size,(hb.cell (p:=⟨g,o,U⟩) HQ.out.1).trans HQ.out.2.1,(hb.cell (p:=⟨g,o+1,U⟩) HQ.out.1).trans HQ.out.2.2⟩);clear hb;have Da:((bA zXS).toList==[112,105,99,107,32,82,50,32,111,118,101,114,32,82,53,32,110,101,97,114,32,108,111,111,112,32,49,44,32,102,114,111,109,32,76,53,32,110,101,97,114,32,108,111,111,112,32,49])=Q:=by rw [zAL];decide
  have C9:((bA zXT).toList==[112,105,99,107,32,82,50,32,111,118,101,114,32,82,53,32,110,101,97,114,44,32,102,114,111,109,32,76,53,32,110,101,97,114,10])=Q:=by rw [zAL];decide
  have texP:((bA exP).toList==[49,48,58,32,49,46,49,32,48,46,49,32,49,117,43,32,57,46,49,32,49,48,46,49,32,49,111,43])=Q:=by rw [zAL];decide
  have texS:((bA exS).toList==[76,49,46,49,60,32,49,117,32,82,49,46,49,62,32,49,111])=Q:=by rw [zAL];decide
  have q0:=HQ.out.2.1;have q1:=HQ.out.2.2;go_wp2_with fail
  refine (zSW HL.out).mono ?_;rintro e V2 ⟨rfl,hb⟩;clear q0 q1;replace HF:=qH (HF.out.below hb);replace HT:=qH (HT.out.below hb);replace HB:=qH (zAa HB.out hb HB.out.size);replace kf:=kf.below hb kf.lt;replace HL:=qH (HL.out.below hb);clear hb;go_wp2_with fail
  go_ret;exact ⟨rfl,HB.out⟩
end Go.Proofs.YtlmdfmnbcndhoaaGreatDoor
