/-
  Lemmas. Conditions: each one's own.
-/
import Derived.Test.YtlmdfmnbcndhoaaGreatDoorRt21
open Go.RowKit
set_option maxHeartbeats 12800000
set_option maxRecDepth 100000
open Bool renaming false->E,true->Q
open Go renaming World->ZY
open Go.Value renaming bool->G,int->D,slice->H,string->W
open Go.IntKind renaming i64->J
open Go.RowKit renaming Below->ZZ
open Go.Proofs.Tryz renaming prog->ZX
open Option renaming none->U,some->Z
open Go.RowKit.Below renaming refl->M
open Nat renaming le_refl->O
namespace Go.Proofs.YtlmdfmnbcndhoaaGreatDoor
theorem zNq (sign:Int):((sign==1)=Q/\sgC sign=43)∨((sign==1)=E/\(sign==-1)=Q/\sgC sign=45)∨((sign==1)=E/\(sign==-1)=E/\sgC sign=63):=by
 unfold sgC;by_cases h1:sign=1
 ·exact .inl ⟨by simpa using h1,by rw [qP h1]⟩
 ·by_cases h2:sign = -1
  ·exact .inr (.inl ⟨by simpa using h1,by simpa using h2,by rw [qN h1,qP h2]⟩)
  ·exact .inr (.inr ⟨by simpa using h1,by simpa using h2,by rw [qN h1,qN h2]⟩)
theorem zMq (K:Int) (A:Option Addr) (n c:Nat) (L:List Lt) (w:ZY) (hA:Lets w A n L) (hn:n<=1000) (hK:I64 K) :
  Calls ZX 50 #[.agg #[D J K,H A n c]] w fun e w'=>e=.returned (W (bA (zCJ K L)))/\ZZ w.heap.size w w':=by
 have cH:=qH hA.len;have hbx:=Boxed.refl w K A n c;have HK:=qH hK;have hok:=hA.fits;have fk:=qH hok;have zK:=zJP hK;have s0:=zAB (Lib.itoa K) [58] (by omega) (by simp);rw [show bA [58]=⟨#[58]⟩ from rfl] at s0;have hst:Hid (bA (Lib.itoa K++[58])=bA (zCJ K (L.take 0))):=qH (by unfold zCJ zLb;simp);have x0:=hbx.c0;clear hK hok;go_enter Tryz.func50,Tryz.ntmps50;go_wp2_with fail
 refine (zBm K HK.out _).mono ?_;rintro e w1 ⟨rfl,ay⟩;have ai:=hbx.more ay;clear hbx ay x0;go_wp2_with fail
 go_loopw [3,4,5,6] (fun v3 v4 _ _ wr=>∃(i:Nat) (S:ByteArray),i<=n/\v4=D J i/\v3=W S/\Boxed w wr K A n c/\Hid (S=bA (zCJ K (L.take i)))) (fun _ v4 _ _ _=>n-(intOf v4).toNat)
 case atStart=>exact ⟨0,_,Nat.zero_le _,rfl,rfl,ai,hst⟩
 case round =>
  obtain ⟨i,S,hi,rfl,rfl,hbr,HS⟩:=hrel;clear hst ai;have x1:=hbr.c1;by_cases hlt:i < n
  ·obtain ⟨gg,o,rfl,hgg,hx,hok⟩:=(hA.below hbr.below).at_ hlt;obtain ⟨y0,y1,y2,y3,y4,y5⟩:=hx;have hil:i < L.length:=by rw [cH.out];exact hlt
   have zw:=zQT hok;have zp:=zOv HK.out (zVK i fk.out);have zt:(L.take i).length<=1000:=by rw [List.length_take];omega
   have i0:(0:Int)<=(i:Int):=by omega
   have i1:(i:Int) < (n:Int):=by omega
   have s1:=zAB (zCJ K (L.take i)) [32] (by omega) (by simp);have s2:=zAB (zCJ K (L.take i)++[32]) (ltS (la L i)) (by simp;omega) (by omega);rw [show bA [32]=⟨#[32]⟩ from rfl] at s1;rw [<-HS.out] at s1;obtain ⟨ZW,hD⟩:∃ZW,ZW=bA (zCJ K (L.take i)++[32]):=⟨_,rfl⟩
   obtain ⟨ZQ,hE⟩:∃ZQ,ZQ=bA ((zCJ K (L.take i)++[32])++ltS (la L i)):=⟨_,rfl⟩
   obtain ⟨ZO,hW⟩:∃ZO,ZO=bA (ltS (la L i)):=⟨_,rfl⟩
   rw [<-hE,<-hD,<-hW] at s2;rw [<-hD] at s1;have cR:=qH (show ZQ=bA (zCJ K (L.take (i+1))) by rw [hE,zMp hil];simp);have HW:=qH hW;have bo:=qH (show I64 (la L i).gate/\I64 (la L i).rank/\I64 (la L i).id from ⟨hok.gate,hok.rank,hok.id⟩);obtain ⟨kind,hk⟩:∃k,(la L i).kind=k:=⟨_,rfl⟩
   obtain ⟨gate,hg⟩:∃k,(la L i).gate=k:=⟨_,rfl⟩
   obtain ⟨rank,hr⟩:∃k,(la L i).rank=k:=⟨_,rfl⟩
   obtain ⟨id,hid⟩:∃k,(la L i).id=k:=⟨_,rfl⟩
   obtain ⟨sign,hs⟩:∃k,(la L i).sign=k:=⟨_,rfl⟩
   obtain ⟨over,ho⟩:∃k,(la L i).over=k:=⟨_,rfl⟩
   have hl:la L i=⟨kind,gate,rank,id,sign,over⟩:=by rw [<-hk,<-hg,<-hr,<-hid,<-hs,<-ho]
   rw [hk] at y0;rw [hg] at y1;rw [hr] at y2;rw [hid] at y3;rw [hs] at y4;rw [ho] at y5;rw [hg,hr,hid] at bo;rw [hl] at HW;have zG:=zJP bo.out.1;have zR:=zJP bo.out.2.1;have zI:=zJP bo.out.2.2;clear HS hD hE hW zw zp zt hok hk hg hr hid hs ho hl;go_upto_region 6 with fail
   obtain ⟨X,hX⟩:∃X,X=wr.alloc (.cells #[D J kind,D J gate,D J rank,D J id,D J sign,G over] 76):=⟨_,rfl⟩
   rw [<-hX];have hk0:Blk X wr.heap.size 76 #[D J kind,D J gate,D J rank,D J id,D J sign,G over]:=by rw [hX];exact Blk.new _ _ _
   have bD:Boxed w X K (Z ⟨gg,o,U⟩) n c:=by rw [hX];exact hbr.alloc _
   have oY:=hk0.lt;clear hX y0 y1 y2 y3 y4 y5 x1 hbr;obtain ⟨c0,c1,c2,c3⟩:=cQ4 hk0;by_cases k1:kind=1
   ·have q1:(kind==1)=Q:=by simpa using k1
    have q2:(kind==2)=E:=by simp;omega
    have hf:=show ZO=bA (Lib.itoa gate++46 :: Lib.itoa rank) by rw [HW.out];unfold ltS;rw [qP k1];simp
    have t1:=zAB (Lib.itoa gate) [46] (by omega) (by simp);have t2:=zAB (Lib.itoa gate++[46]) (Lib.itoa rank) (by simp;omega) (by omega);rw [show bA [46]=⟨#[46]⟩ from rfl] at t1;rw [hf] at s2;clear k1 zI zG zR HW hf;have KP:=qH (show ∀wx,ZZ X.heap.size X wx->(ZZ X.heap.size X wx/\wx.cell? ⟨wr.heap.size,1,U⟩=Z (D J gate)/\wx.cell? ⟨wr.heap.size,2,U⟩=Z (D J rank)) from fun wx h=>⟨h,(h.cell (p:=⟨wr.heap.size,1,U⟩) oY).trans c1,(h.cell (p:=⟨wr.heap.size,2,U⟩) oY).trans c2⟩);go_wp2_with fail
    first
     | go_region_held3 (fun wx=>ZZ X.heap.size X wx/\wx.cell? ⟨wr.heap.size,1,U⟩=Z (D J gate)/\wx.cell? ⟨wr.heap.size,2,U⟩=Z (D J rank)) (first | assumption | exact KP.out _ (M _ _).drew | exact KP.out _ (zAa (And.left (by assumption)) (by assumption) (Below.size (And.left (by assumption)))))
       (first
        | (go_at_call 78;refine (zBm gate bo.out.1 _).mono ?_;rintro e wx ⟨rfl,az⟩)
        | (go_at_call 78;refine (zBm rank bo.out.2.1 _).mono ?_;rintro e wx ⟨rfl,az⟩))
     | fail
    all_goals
     have hbf:=And.left (show ZZ X.heap.size X _/\_ by assumption);have e0:World.cell? _ ⟨wr.heap.size,0,U⟩=Z (D J kind):=((hk0.below hbf oY).cell 0).trans rfl;clear hk0;have kV:=bD.more hbf;clear bD;go_wp2_with fail
     go_roundw
     case rel=>exact ⟨i+1,ZQ,by omega,by go_num,rfl,kV,cR⟩
     case measure=>simp [intOf];omega
   ·have q1:(kind==1)=E:=by simpa using k1
    by_cases k2:kind=2
    ·have q2:(kind==2)=Q:=by simpa using k2
     have t1:=zAB (Lib.itoa id) [117] (by omega) (by simp);have t2:=zAB (Lib.itoa id) [111] (by omega) (by simp);have t3:=zAB (Lib.itoa id++[117]) [43] (by simp;omega) (by simp);have t4:=zAB (Lib.itoa id++[117]) [45] (by simp;omega) (by simp);have t5:=zAB (Lib.itoa id++[117]) [63] (by simp;omega) (by simp);have t6:=zAB (Lib.itoa id++[111]) [43] (by simp;omega) (by simp);have t7:=zAB (Lib.itoa id++[111]) [45] (by simp;omega) (by simp);have t8:=zAB (Lib.itoa id++[111]) [63] (by simp;omega) (by simp);rw [show bA [117]=⟨#[117]⟩ from rfl] at t1;rw [show bA [111]=⟨#[111]⟩ from rfl] at t2;rw [show bA [43]=⟨#[43]⟩ from rfl] at t3 t6;rw [show bA [45]=⟨#[45]⟩ from rfl] at t4 t7;rw [show bA [63]=⟨#[63]⟩ from rfl] at t5 t8;clear zG zR zI c1 c2
     cases over with
     | false =>
      rcases zNq sign with ⟨n1,hS⟩ | ⟨n1,n2,hS⟩ | ⟨n1,n2,hS⟩
      all_goals
       have hf:=show ZO=bA (Lib.itoa id++[ovC E,sgC sign]) by rw [HW.out];unfold ltS;rw [qN k1,qP k2];simp
       rw [hS,show ovC E=117 from rfl] at hf;rw [hf] at s2;clear hS hf HW;go_wp2_with fail
       refine (zBm id bo.out.2.2 _).mono ?_;rintro e w2 ⟨rfl,al⟩;have hk2:=hk0.below al oY;obtain ⟨-,-,-,-,d4,d5⟩:=cQ6 hk2;clear hk2 hk0;have kV:=bD.more al;clear bD;go_wp2_with fail
       go_roundw
       case rel=>exact ⟨i+1,ZQ,by omega,by go_num,rfl,kV,cR⟩
       case measure=>simp [intOf];omega
     | true =>
      rcases zNq sign with ⟨n1,hS⟩ | ⟨n1,n2,hS⟩ | ⟨n1,n2,hS⟩
      all_goals
       have hf:=show ZO=bA (Lib.itoa id++[ovC Q,sgC sign]) by rw [HW.out];unfold ltS;rw [qN k1,qP k2];simp
       rw [hS,show ovC Q=111 from rfl] at hf;rw [hf] at s2;clear hS hf HW;go_wp2_with fail
       refine (zBm id bo.out.2.2 _).mono ?_;rintro e w2 ⟨rfl,al⟩;have hk2:=hk0.below al oY;obtain ⟨-,-,-,d3,-,d5⟩:=cQ6 hk2;have BT:=hk2.lt;go_wp2_with fail
       refine (zBm id bo.out.2.2 _).mono ?_;rintro e w3 ⟨rfl,bh⟩;have e4:w3.cell? ⟨wr.heap.size,4,U⟩=Z (D J sign):=((hk2.below bh BT).cell 4).trans rfl;have az:=al.trans (bh.mono al.size);clear d3 d5 hk2 hk0;have kV:=bD.more az;clear bD;go_wp2_with fail
       go_roundw
       case rel=>exact ⟨i+1,ZQ,by omega,by go_num,rfl,kV,cR⟩
       case measure=>simp [intOf];omega
    ·have q2:(kind==2)=E:=by simpa using k2
     have hf:=show ZO=bA [63] by rw [HW.out];unfold ltS;rw [qN k1,qN k2]
     rw [hf,show bA [63]=⟨#[63]⟩ from rfl] at s2;have al:=M X.heap.size X;clear k1 k2 zG zR zI HW hf;have kV:=bD.more al;clear bD;go_wp2_with fail
     go_roundw
     case rel=>exact ⟨i+1,ZQ,by omega,by go_num,rfl,kV,cR⟩
     case measure=>simp [intOf];omega
  ·have hin:i=n:=by omega
   have hS:=HS.out;rw [hin,List.take_of_length_le (by rw [cH.out];exact O _)] at hS;have cR:=qH hS;have i1:¬(i:Int) < (n:Int):=by omega
   clear hS hin HS;go_wp2_with fail
   go_ret;exact ⟨by rw [<-cR.out];rfl,hbr.below⟩
def exP:List UInt8:=[49,48,58,32,49,46,49,32,48,46,49,32,49,117,43,32,57,46,49,32,49,48,46,49,32,49,111,43]
theorem zSU:zCJ 10 (exL 1)=exP:=by kernel_rfl
def fgC (f:Fg):List Value:=[D J f.p,G f.r,D J f.d]
theorem zNr:(Tryz.prog.info? 90).map (fun i=>(i.zero,i.size,i.bytes))=Z (Z (.agg #[D J 0,G E,D J 0]),3,24):=by kernel_rfl
theorem zYC (p d:Int) (r:Bool) (w:ZY):(Instr.buildSlice 22 1 #[(0,.agg #[D J p,G r,D J d])]).run ZX w=.ok (H (Z ⟨w.heap.size,0,U⟩) 1 1) (w.alloc (.cells #[D J p,G r,D J d] 90)):=by
 obtain ⟨i0,hi,cD,bu,cM⟩:=info_parts zNr;refine run_buildSlice w _ _ 1 _ _ i0 _ Tryz.underlying22 hi cD (by rw [bu];omega) (by rw [bu];omega) ?_;rw [bu]
 kernel_rfl
theorem zXl {w:ZY} {ops:Array Oper} {rest:List Oper} {o:Oper} {a:Act} {Q':Exit->Act->ZY->Prop} (hgd:o.guard=U) (s x:Operand)
  (ho:o.op=.call { callee:=.builtin .append,args:=#[s,x],argTypes:=#[22,22] })
  {base:Nat} {A:Option Addr} {n c:Nat} {L:List Fg} (hst:Row w base 3 A n c (L.flatMap fgC)) (f:Fg) (hs:a.eval s=H A n c)
  (ZT:Nat) (hH:w.heap.size=ZT) (hx:a.eval x=H (Z ⟨ZT,0,U⟩) 1 1) (N:Nat) (hN:n+1=N) (hn:N<=1000000) (hbase:base<=w.heap.size)
  (h:∀A' c' w',Row w' base 3 A' N c' ((L++[f]).flatMap fgC)->w.grownBy w' (blk A)->(∀k,blk A'=Z k->blk A=Z k∨w.heap.size<=k)->wpList ZX ops Q' rest (a.put o.dst (H A' N c')) w') :
  wpList ZX ops Q' (o :: rest) a (w.alloc (.cells #[D J f.p,G f.r,D J f.d] 90)):=by
 subst hH;obtain ⟨i0,hi,cD,bu,cM⟩:=info_parts zNr
 refine zRt hgd s x 22 ho 90 i0 _ 3 24 Tryz.underlying22 hi cD bu cM rfl (by decide) (hst.alloc _) (Src.new (m:=1) (cs:=fgC f) rfl)
  (by intro u hu;simp [fgC] at hu;rcases hu with rfl | rfl | rfl<;>rfl) hs hx N hN (by unfold maxLen;omega) (by omega) (by simp;omega) ?_
 intro A' c' w' h1 h2 h3 _;refine h A' c' w' (by rw [List.flatMap_append];simpa using h1) (zAb (World.grownBy_alloc w _ _) h2) (fun k hk=>?_);rcases h3 k hk with h | h
 ·exact .inl h
 ·right;simp at h;omega
theorem zXm {i:Nat} (h:i < 5):(stdF.take i)++[⟨1,E,(i:Int)+1⟩]=stdF.take (i+1):=by
 rcases i with _ | _ | _ | _ | _ | i<;>first | rfl | omega
theorem zSV {i:Nat} (h:i < 5):(stdF.take (5+i))++[⟨1,Q,5-(i:Int)⟩]=stdF.take (5+i+1):=by
 rcases i with _ | _ | _ | _ | _ | i<;>first | rfl | omega
structure FbW (Y w:ZY) (oB:Nat) (re lo:Int) (A:Option Addr) (n c:Nat) (L:List Fg):Prop where
 own:Row w Y.heap.size 3 A n c (L.flatMap fgC)
 bk:Blk w oB 24 #[H A n c,D J re,D J lo]
 far:∀q,blk A=Z q->q≠oB
 old:ZZ Y.heap.size Y w
theorem FbW.pushed {Y w w':ZY} {oB:Nat} {re lo:Int} {A A':Option Addr} {n c N c':Nat} {L L':List Fg} (h:FbW Y w oB re lo A n c L) (hY:Y.heap.size<=oB) (hown:Row w' Y.heap.size 3 A' N c' (L'.flatMap fgC)) (hg:w.grownBy w' (blk A)) (hl:∀k,blk A'=Z k->blk A=Z k∨w.heap.size<=k) :
  Blk w' oB 24 #[H A n c,D J re,D J lo]/\FbW Y (w'.setCell ⟨oB,0,U⟩ (H A' N c')) oB re lo A' N c' L':=by
 have hb:Blk w' oB 24 #[H A n c,D J re,D J lo]:=h.bk.grown hg (fun e=>h.far oB e.symm rfl);have hf:∀q,blk A'=Z q->q≠oB:=fun q hq=>by
  rcases hl q hq with e | e
  ·exact h.far q e
  ·have:=h.bk.lt;omega
 have hold:ZZ Y.heap.size Y w':=h.old.trans ((M _ _).grown hg h.old.size (fun k hk=>(h.own.lt k hk).1));exact ⟨hb,⟨hown.farSet 0 _ hf,hb.set_ 0 _,hf,hold.setCell (p:=⟨oB,0,U⟩) hY _⟩⟩
theorem zXZ (w:ZY):(Instr.build 24 #[(1,D J 6),(2,D J 4)]).run ZX w=.ok (.agg #[H U 0 0,D J 6,D J 4]) w:=run_build w _ _ _ (by kernel_rfl)
theorem zXn (p d:Int) (w:ZY):(Instr.build 90 #[(0,D J p),(2,D J d)]).run ZX w=.ok (.agg #[D J p,G E,D J d]) w:=run_build w _ _ _ (by kernel_rfl)
theorem zXo (p d:Int) (w:ZY):(Instr.build 90 #[(0,D J p),(1,G Q),(2,D J d)]).run ZX w=.ok (.agg #[D J p,G Q,D J d]) w:=run_build w _ _ _ (by kernel_rfl)
theorem zJQ (w:ZY):Calls ZX 49 #[D J 1] w fun e w'=>∃A c,e=.returned (frV A 10 c 6 4)/\Row w' w.heap.size 3 A 10 c (stdF.flatMap fgC)/\ZZ w.heap.size w w':=by
 have ah:ZZ w.heap.size w (w.alloc (.cells #[H U 0 0,D J 0,D J 0] 24)):=(M _ _).alloc (O _) _;have hk0:Blk (w.alloc (.cells #[H U 0 0,D J 0,D J 0] 24)) w.heap.size 24 #[H U 0 0,D J 0,D J 0]:=Blk.new _ _ _;go_enter Tryz.func49,Tryz.ntmps49;go_upto_region 1 with fail
 generalize w.alloc (.cells #[H U 0 0,D J 0,D J 0] 24)=Y at ah hk0 ⊢;have cA:FbW Y (Y.alloc (.cells #[H U 0 0,D J 6,D J 4] 24)) Y.heap.size 6 4 U 0 0 (stdF.take 0):=⟨Row.none_ _ _ _,Blk.new _ _ _,fun q hq=>(by cases hq),(M _ _).alloc (O _) _⟩;go_upto_region 2 with fail
 generalize hZ:Y.alloc (.cells #[H U 0 0,D J 6,D J 4] 24)=ZR at cA ⊢;clear hZ;obtain ⟨oB,o4⟩:∃a,Y.heap.size=a:=⟨_,rfl⟩
 have tr:Y.heap.size<=oB:=by omega
 rw [o4];have cA:FbW Y ZR oB 6 4 U 0 0 (stdF.take 0):=by rw [<-o4];exact cA
 clear o4;go_wp2_with fail
 go_loopw [4] (fun v4 wv=>∃(i:Nat) (p:Int) (X:ZY) (A1:Option Addr) (c1:Nat),X=wv/\i<=1/\v4=D J p/\Hid (p=(i:Int)+1)/\FbW Y X oB 6 4 A1 (10*i) c1 (stdF.take (10*i))) (fun v4 _=>2-(intOf v4).toNat)
 case atStart=>exact ⟨0,1,_,U,0,rfl,by omega,rfl,qH rfl,cA⟩
 case round =>
  obtain ⟨i,p,X,A1,c1,hX,hi,rfl,HP,hW⟩:=hrel;subst hX;clear cA;by_cases hlt:i < 1
  ·obtain rfl:i=0:=by omega
   obtain rfl:p=1:=HP.out;clear HP;have cA:FbW Y X oB 6 4 A1 0 c1 (stdF.take 0):=hW;clear hW;go_wp2_with fail
   go_loopw [5] (fun v5 wv=>∃(j:Nat) (q:Int) (X:ZY) (A1:Option Addr) (c1:Nat),X=wv/\j<=5/\v5=D J q/\Hid (q=(j:Int)+1)/\FbW Y X oB 6 4 A1 j c1 (stdF.take j)) (fun v5 _=>6-(intOf v5).toNat)
   case atStart=>exact ⟨0,1,_,A1,c1,rfl,by omega,rfl,qH rfl,cA⟩
   case round =>
    obtain ⟨j,q,X,A1,c1,hX,hj,rfl,HQ,hW⟩:=hrel;subst hX;clear cA;by_cases hjt:j < 5
    ·have j1:q<=5:=by have:=HQ.out;omega
     have j2:0<=q:=by have:=HQ.out;omega
     have yC:=qH (show stdF.take j++[⟨1,E,q⟩]=stdF.take (j+1) by rw [HQ.out];exact zXm hjt);have o0:X.cell? ⟨oB,0,U⟩=Z (H A1 j c1):=(hW.bk.cell 0).trans rfl;have bD:Y.heap.size<=X.heap.size:=hW.old.size;have yl:j+1<=1000000:=by omega
     go_upto_region 9 with (at_builtin;refine zEK ?_)
     refine qH ?_;refine zXl (base:=Y.heap.size) (A:=A1) (n:=j) (c:=c1) (L:=stdF.take j) rfl (.tmp 18) (.tmp 22) ?_ ?_ ⟨1,E,q⟩ ?_ X.heap.size rfl ?_ (j+1) rfl yl bD ?_
     ·rfl
     ·exact hW.own
     ·rfl
     ·rfl
     intro A2 c2 w9 fq b8 hl9';obtain ⟨gn,eG⟩:=hW.pushed tr fq b8 hl9';have p1:w9.cell? ⟨oB,0,U⟩=Z (H A1 j c1):=(gn.cell 0).trans rfl;have z1:=gn.frozen 0;rw [yC.out] at eG;have pG:=qH eG;clear hW fq b8 hl9' eG gn o0;go_wp2_with fail
     go_roundw
     case rel=>exact ⟨j+1,q+1,_,A2,c2,rfl,by omega,by go_num,qH (by rw [HQ.out];omega),pG.out⟩
     case measure=>simp [intOf];omega
    ·obtain rfl:j=5:=by omega
     obtain rfl:q=6:=HQ.out;clear HQ;have de:FbW Y X oB 6 4 A1 (5+0) c1 (stdF.take (5+0)):=hW;clear hW;go_wp2_with fail
     go_loopw [6] (fun v6 wv=>∃(j:Nat) (X:ZY) (A1:Option Addr) (c1:Nat),X=wv/\j<=5/\v6=D J (5-(j:Int))/\FbW Y X oB 6 4 A1 (5+j) c1 (stdF.take (5+j))) (fun v6 _=>(intOf v6).toNat)
     case atStart=>exact ⟨0,_,A1,c1,rfl,by omega,by rfl,de⟩
     case round =>
      obtain ⟨j,X,A1,c1,hX,hj,rfl,hW⟩:=hrel;subst hX;clear de;by_cases hjt:j < 5
      ·have j1:(1:Int)<=5-(j:Int):=by omega
       have yC:=qH (zSV hjt);have o0:X.cell? ⟨oB,0,U⟩=Z (H A1 (5+j) c1):=(hW.bk.cell 0).trans rfl;have bD:Y.heap.size<=X.heap.size:=hW.old.size;have yl:5+j+1<=1000000:=by omega
       go_upto_region 13 with (at_builtin;refine zEK ?_)
       refine qH ?_;refine zXl (base:=Y.heap.size) (A:=A1) (n:=5+j) (c:=c1) (L:=stdF.take (5+j)) rfl (.tmp 30) (.tmp 34) ?_ ?_ ⟨1,Q,5-(j:Int)⟩ ?_ X.heap.size rfl ?_ (5+j+1) rfl yl bD ?_
       ·rfl
       ·exact hW.own
       ·rfl
       ·rfl
       intro A2 c2 w9 fq b8 hl9';obtain ⟨gn,eG⟩:=hW.pushed tr fq b8 hl9';have p1:w9.cell? ⟨oB,0,U⟩=Z (H A1 (5+j) c1):=(gn.cell 0).trans rfl;have z1:=gn.frozen 0;rw [yC.out] at eG;have pG:=qH eG;clear hW fq b8 hl9' eG gn o0;go_wp2_with fail
       go_roundw
       case rel=>exact ⟨j+1,_,A2,c2,rfl,by omega,by go_num,pG.out⟩
       case measure=>simp [intOf];omega
      ·obtain rfl:j=5:=by omega
       have vI:=qH (show FbW Y X oB 6 4 A1 (10*(0+1)) c1 (stdF.take (10*(0+1))) from hW);clear hW;go_wp2_with fail
       go_roundw
       case rel=>exact ⟨0+1,2,_,A1,c1,rfl,by omega,by go_num,qH rfl,vI.out⟩
       case measure=>simp [intOf]
  ·obtain rfl:i=1:=by omega
   obtain rfl:p=2:=HP.out;clear HP;have vj:w.heap.size < Y.heap.size:=hk0.lt;have fT:=hk0.below hW.old vj;have e0:X.cell? ⟨oB,0,U⟩=Z (H A1 (10*1) c1):=(hW.bk.cell 0).trans rfl;have e1:X.cell? ⟨oB,1,U⟩=Z (D J 6):=(hW.bk.cell 1).trans rfl;have e2:X.cell? ⟨oB,2,U⟩=Z (D J 4):=(hW.bk.cell 2).trans rfl;obtain ⟨r0,r1,r2⟩:=cQ3 fT;have z0:=fT.frozen 0;have z1:=fT.frozen 1;have z2:=fT.frozen 2;have vL:=qH fT;have HW:=qH hW;have og:=ah.size;clear hlt hW fT;go_wp2_with fail
   have hS:Blk (((X.setCell ⟨w.heap.size,0,U⟩ (H A1 (10*1) c1)).setCell ⟨w.heap.size,1,U⟩ (D J 6)).setCell ⟨w.heap.size,2,U⟩ (D J 4)) w.heap.size 24 #[H A1 (10*1) c1,D J 6,D J 4]:=((vL.out.set_ 0 _).set_ 1 _).set_ 2 _;have gS:=zAk (zAk (zAk (World.grownBy.refl X (Z w.heap.size)) (p:=⟨w.heap.size,0,U⟩) (.inl rfl) (H A1 (10*1) c1)) (p:=⟨w.heap.size,1,U⟩) (.inl rfl) (D J 6)) (p:=⟨w.heap.size,2,U⟩) (.inl rfl) (D J 4);have gM:=(((zAa ah HW.out.old og).setCell (p:=⟨w.heap.size,0,U⟩) (O _) (H A1 (10*1) c1)).setCell (p:=⟨w.heap.size,1,U⟩) (O _) (D J 6)).setCell (p:=⟨w.heap.size,2,U⟩) (O _) (D J 4);have vl:Row (((X.setCell ⟨w.heap.size,0,U⟩ (H A1 (10*1) c1)).setCell ⟨w.heap.size,1,U⟩ (D J 6)).setCell ⟨w.heap.size,2,U⟩ (D J 4)) w.heap.size 3 A1 10 c1 (stdF.flatMap fgC):=by
    refine (HW.out.own.kept gS ?_).mono og
    cases hb:blk A1 with
    | none=>exact .inl rfl
    | some q=>exact .inr (by have:=(HW.out.own.lt q hb).1;simp;omega)
   (try simp only [Exit.inBlock,Exit.then])
   refine zAi rfl rfl hS Tryz.underlying24 rfl (by kernel_rfl) rfl ?_;exact ⟨A1,c1,rfl,vl,gM⟩
theorem zVL {p d:Nat} (hp:p < 9) (hd:d < 7):AL.take (14*p+2*d)++[⟨(p:Int)+1,E,(d:Int)⟩,⟨(p:Int)+1,Q,(d:Int)⟩]=AL.take (14*p+2*d+2):=by
 have h:((List.range 9).all fun p=>(List.range 7).all fun d=>decide (AL.take (14*p+2*d)++[⟨(p:Int)+1,E,(d:Int)⟩,⟨(p:Int)+1,Q,(d:Int)⟩]=AL.take (14*p+2*d+2)))=Q:=by decide +kernel
 have h1:=List.all_eq_true.1 h p (List.mem_range.2 hp);have h2:=List.all_eq_true.1 h1 d (List.mem_range.2 hd);exact of_decide_eq_true h2
theorem zYD (p d p' d':Int) (r r':Bool) (w:ZY):(Instr.buildSlice 22 2 #[(0,.agg #[D J p,G r,D J d]),(1,.agg #[D J p',G r',D J d'])]).run ZX w =
  .ok (H (Z ⟨w.heap.size,0,U⟩) 2 2) (w.alloc (.cells #[D J p,G r,D J d,D J p',G r',D J d'] 90)):=by
 obtain ⟨i0,hi,cD,bu,cM⟩:=info_parts zNr;refine run_buildSlice w _ _ 2 _ _ i0 _ Tryz.underlying22 hi cD (by rw [bu];omega) (by rw [bu];omega) ?_;rw [bu]
 kernel_rfl
theorem zXp {w:ZY} {ops:Array Oper} {rest:List Oper} {o:Oper} {a:Act} {Q':Exit->Act->ZY->Prop} (hgd:o.guard=U) (s x:Operand)
  (ho:o.op=.call { callee:=.builtin .append,args:=#[s,x],argTypes:=#[22,22] })
  {base:Nat} {A:Option Addr} {n c:Nat} {L:List Fg} (hst:Row w base 3 A n c (L.flatMap fgC)) (f g:Fg) (hs:a.eval s=H A n c)
  (ZT:Nat) (hH:w.heap.size=ZT) (hx:a.eval x=H (Z ⟨ZT,0,U⟩) 2 2) (N:Nat) (hN:n+2=N) (hn:N<=1000000) (hbase:base<=w.heap.size)
  (h:∀A' c' w',Row w' base 3 A' N c' ((L++[f,g]).flatMap fgC)->w.grownBy w' (blk A)->(∀k,blk A'=Z k->blk A=Z k∨w.heap.size<=k)->wpList ZX ops Q' rest (a.put o.dst (H A' N c')) w') :
  wpList ZX ops Q' (o :: rest) a (w.alloc (.cells #[D J f.p,G f.r,D J f.d,D J g.p,G g.r,D J g.d] 90)):=by
 subst hH;obtain ⟨i0,hi,cD,bu,cM⟩:=info_parts zNr
 refine zRt hgd s x 22 ho 90 i0 _ 3 24 Tryz.underlying22 hi cD bu cM rfl (by decide) (hst.alloc _) (Src.new (m:=2) (cs:=fgC f++fgC g) rfl)
  (by intro u hu;simp [fgC] at hu;rcases hu with rfl | rfl | rfl | rfl | rfl | rfl<;>rfl) hs hx N hN (by unfold maxLen;omega) (by omega) (by simp;omega) ?_
 intro A' c' w' h1 h2 h3 _;refine h A' c' w' (by rw [List.flatMap_append];simpa using h1) (zAb (World.grownBy_alloc w _ _) h2) (fun k hk=>?_);rcases h3 k hk with h | h
 ·exact .inl h
 ·right;simp at h;omega
theorem zXq (w:ZY):(Instr.build 24 #[(2,D J 1)]).run ZX w=.ok (.agg #[H U 0 0,D J 0,D J 1]) w:=run_build w _ _ _ (by kernel_rfl)
theorem zCd (w:ZY):Calls ZX 56 #[] w fun e w'=>∃A c,e=.returned (frV A 126 c 0 1)/\Row w' w.heap.size 3 A 126 c (AL.flatMap fgC)/\ZZ w.heap.size w w':=by
 have ah:ZZ w.heap.size w (w.alloc (.cells #[H U 0 0,D J 0,D J 0] 24)):=(M _ _).alloc (O _) _;have hk0:Blk (w.alloc (.cells #[H U 0 0,D J 0,D J 0] 24)) w.heap.size 24 #[H U 0 0,D J 0,D J 0]:=Blk.new _ _ _;go_enter Tryz.func56,Tryz.ntmps56;go_upto_region 1 with fail
 generalize w.alloc (.cells #[H U 0 0,D J 0,D J 0] 24)=Y at ah hk0 ⊢;have cA:FbW Y (Y.alloc (.cells #[H U 0 0,D J 0,D J 1] 24)) Y.heap.size 0 1 U 0 0 (AL.take 0):=⟨Row.none_ _ _ _,Blk.new _ _ _,fun q hq=>(by cases hq),(M _ _).alloc (O _) _⟩;go_upto_region 2 with fail
 generalize hZ:Y.alloc (.cells #[H U 0 0,D J 0,D J 1] 24)=ZR at cA ⊢;clear hZ;obtain ⟨oB,o4⟩:∃a,Y.heap.size=a:=⟨_,rfl⟩
 have tr:Y.heap.size<=oB:=by omega
 rw [o4];have cA:FbW Y ZR oB 0 1 U 0 0 (AL.take 0):=by rw [<-o4];exact cA
 clear o4;go_wp2_with fail
 go_loopw [2] (fun v2 wv=>∃(i:Nat) (p:Int) (X:ZY) (A1:Option Addr) (c1:Nat),X=wv/\i<=9/\v2=D J p/\Hid (p=(i:Int)+1)/\FbW Y X oB 0 1 A1 (14*i) c1 (AL.take (14*i))) (fun v2 _=>10-(intOf v2).toNat)
 case atStart=>exact ⟨0,1,_,U,0,rfl,by omega,rfl,qH rfl,cA⟩
 case round =>
  obtain ⟨i,p,X,A1,c1,hX,hi,rfl,HP,hW⟩:=hrel;subst hX;clear cA;by_cases hlt:i < 9
  ·have i1:p<=9:=by have:=HP.out;omega
   have i2:1<=p:=by have:=HP.out;omega
   have cA:FbW Y X oB 0 1 A1 (14*i+2*0) c1 (AL.take (14*i+2*0)):=hW;clear hW;go_wp2_with fail
   go_loopw [3] (fun v3 wv=>∃(j:Nat) (q:Int) (X:ZY) (A1:Option Addr) (c1 n1:Nat),X=wv/\j<=7/\v3=D J q/\Hid (q=(j:Int))/\n1=14*i+2*j/\FbW Y X oB 0 1 A1 n1 c1 (AL.take (14*i+2*j))) (fun v3 _=>7-(intOf v3).toNat)
   case atStart=>exact ⟨0,0,_,A1,c1,_,rfl,by omega,rfl,qH rfl,rfl,cA⟩
   case round =>
    obtain ⟨j,q,X,A1,c1,n1,hX,hj,rfl,HQ,mU,hW⟩:=hrel;subst hX;clear cA;by_cases hjt:j < 7
    ·have j1:q<=6:=by have:=HQ.out;omega
     have j2:0<=q:=by have:=HQ.out;omega
     have yC:=qH (show AL.take (14*i+2*j)++[⟨p,E,q⟩,⟨p,Q,q⟩]=AL.take (14*i+2*j+2) by rw [HP.out,HQ.out];exact zVL hlt hjt);have o0:X.cell? ⟨oB,0,U⟩=Z (H A1 n1 c1):=(hW.bk.cell 0).trans rfl;have bD:Y.heap.size<=X.heap.size:=hW.old.size;have yl:n1+2<=1000000:=by omega
     have HN1:=qH mU;clear mU;go_upto_region 7 with (at_builtin;refine zEK ?_)
     refine qH ?_;refine zXp (base:=Y.heap.size) (A:=A1) (n:=n1) (c:=c1) (L:=AL.take (14*i+2*j)) rfl (.tmp 14) (.tmp 21) ?_ ?_ ⟨p,E,q⟩ ⟨p,Q,q⟩ ?_ X.heap.size rfl ?_ (n1+2) rfl yl bD ?_
     ·rfl
     ·exact hW.own
     ·rfl
     ·rfl
     intro A2 c2 w9 fq b8 hl9';obtain ⟨gn,eG⟩:=hW.pushed tr fq b8 hl9';have p1:w9.cell? ⟨oB,0,U⟩=Z (H A1 n1 c1):=(gn.cell 0).trans rfl;have z1:=gn.frozen 0;rw [yC.out] at eG;have pG:=qH eG;clear hW fq b8 hl9' eG gn o0;go_wp2_with fail
     go_roundw
     case rel=>exact ⟨j+1,q+1,_,A2,c2,n1+2,rfl,by omega,by go_num,qH (by rw [HQ.out];omega),by have:=HN1.out;omega,pG.out⟩
     case measure=>simp [intOf];omega
    ·obtain rfl:j=7:=by omega
     obtain rfl:q=7:=HQ.out;clear HQ
     have vI:=qH (show FbW Y X oB 0 1 A1 (14*(i+1)) c1 (AL.take (14*(i+1))) by
      have h:=hW
      rw [mU] at h
      exact h)
     clear hW mU;go_wp2_with fail
     go_roundw
     case rel=>exact ⟨i+1,p+1,_,A1,c1,rfl,by omega,by go_num,qH (by rw [HP.out];omega),vI.out⟩
     case measure=>simp [intOf];omega
  ·obtain rfl:i=9:=by omega
   obtain rfl:p=10:=HP.out;clear HP;have vj:w.heap.size < Y.heap.size:=hk0.lt;have fT:=hk0.below hW.old vj;have e0:X.cell? ⟨oB,0,U⟩=Z (H A1 (14*9) c1):=(hW.bk.cell 0).trans rfl;have e1:X.cell? ⟨oB,1,U⟩=Z (D J 0):=(hW.bk.cell 1).trans rfl;have e2:X.cell? ⟨oB,2,U⟩=Z (D J 1):=(hW.bk.cell 2).trans rfl;obtain ⟨r0,r1,r2⟩:=cQ3 fT;have z0:=fT.frozen 0;have z1:=fT.frozen 1;have z2:=fT.frozen 2;have vL:=qH fT;have HW:=qH hW;have og:=ah.size;clear hlt hW fT;go_wp2_with fail
   have hS:Blk (((X.setCell ⟨w.heap.size,0,U⟩ (H A1 (14*9) c1)).setCell ⟨w.heap.size,1,U⟩ (D J 0)).setCell ⟨w.heap.size,2,U⟩ (D J 1)) w.heap.size 24 #[H A1 (14*9) c1,D J 0,D J 1]:=((vL.out.set_ 0 _).set_ 1 _).set_ 2 _;have gS:=zAk (zAk (zAk (World.grownBy.refl X (Z w.heap.size)) (p:=⟨w.heap.size,0,U⟩) (.inl rfl) (H A1 (14*9) c1)) (p:=⟨w.heap.size,1,U⟩) (.inl rfl) (D J 0)) (p:=⟨w.heap.size,2,U⟩) (.inl rfl) (D J 1);have gM:=(((zAa ah HW.out.old og).setCell (p:=⟨w.heap.size,0,U⟩) (O _) (H A1 (14*9) c1)).setCell (p:=⟨w.heap.size,1,U⟩) (O _) (D J 0)).setCell (p:=⟨w.heap.size,2,U⟩) (O _) (D J 1);have hT:AL.take (14*9)=AL:=List.take_of_length_le (by rw [zHD];omega);have vl:Row (((X.setCell ⟨w.heap.size,0,U⟩ (H A1 (14*9) c1)).setCell ⟨w.heap.size,1,U⟩ (D J 0)).setCell ⟨w.heap.size,2,U⟩ (D J 1)) w.heap.size 3 A1 126 c1 (AL.flatMap fgC):=by
    have h:=HW.out.own;rw [hT] at h;refine (h.kept gS ?_).mono og
    cases hb:blk A1 with
    | none=>exact .inl rfl
    | some q=>exact .inr (by have:=(HW.out.own.lt q hb).1;simp;omega)
   (try simp only [Exit.inBlock,Exit.then])
   refine zAi rfl rfl hS Tryz.underlying24 rfl (by kernel_rfl) rfl ?_;exact ⟨A1,c1,rfl,vl,gM⟩
theorem zNs {x:Fg} {S:List UInt8} (h:zAj x=S) (hx:zAn x=Q) (w:ZY) :
  Calls ZX 111 #[fgV x] w fun e w'=>e=.returned (W (bA S))/\ZZ w.heap.size w w':=by
 subst h;exact zKo x hx w
def zVM (o:Option Fg):Value:=match o with | some f=>.tuple #[fgV f,G Q] | none=>.tuple #[fgV df,G E]
theorem zIk (S:List UInt8) (w:ZY) :
  Calls ZX 150 #[W (bA S)] w fun e w'=>e=.returned (zVM (zGs S))/\ZZ w.heap.size w w':=by
 have ah:ZZ w.heap.size w (w.alloc (.cells #[D J 0,G E,D J 0] 90)):=(M _ _).alloc (O _) _;have hk0:Blk (w.alloc (.cells #[D J 0,G E,D J 0] 90)) w.heap.size 90 #[D J 0,G E,D J 0]:=Blk.new _ _ _;go_enter Tryz.func150,Tryz.ntmps150;go_wp2_with fail
 generalize w.alloc (.cells #[D J 0,G E,D J 0] 90)=ZO at ah hk0 ⊢;go_loopw [4] (fun v wr=>∃p:Nat,1<=p/\p<=10/\v=D J p/\ZZ ZO.heap.size ZO wr/\Hid (∀f,zAn f=Q->f.p < (p:Int)->zAj f≠S)) (fun v _=>10-(intOf v).toNat)
 case atStart=>exact ⟨1,by omega,by omega,rfl,M _ _,qH (fun f hf h=>by have:=zAv.1 hf;omega)⟩
 case round =>
  obtain ⟨p,hp1,hp,rfl,hbr,HP⟩:=hrel;by_cases hlt:p < 10
  ·have i1:(p:Int)<=9:=by omega
   go_wp2_with fail
   go_loopw [5] (fun v w1=>∃d:Nat,d<=7/\v=D J d/\ZZ ZO.heap.size ZO w1/\Hid (∀f,zAn f=Q->(f.p < (p:Int)∨f.p=(p:Int)/\f.d < (d:Int))->zAj f≠S)) (fun v _=>7-(intOf v).toNat)
   case atStart=>exact ⟨0,by omega,rfl,hbr,qH (fun f hf h=>by rcases h with h | h;exact HP.out f hf h;have:=zAv.1 hf;omega)⟩
   case round =>
    clear hbr;obtain ⟨d,hd,rfl,hbr,HD⟩:=hrel;by_cases hdl:d < 7
    ·have i2:(d:Int)<=6:=by omega
     have hth:∀r,zAn ⟨(p:Int),r,(d:Int)⟩=Q:=fun r=>zAv.2 ⟨by simp only;omega,by simp only;omega,by simp only;omega,by simp only;omega⟩
     obtain ⟨NL,CL⟩:∃T,zAj ⟨(p:Int),E,(d:Int)⟩=T:=⟨_,rfl⟩
     obtain ⟨NR,CK⟩:∃T,zAj ⟨(p:Int),Q,(d:Int)⟩=T:=⟨_,rfl⟩
     have dZ:=qH (fun w=>zNs CL (hth E) w);have iX:=qH (fun w=>zNs CK (hth Q) w);have HL:=qH CL;have HR:=qH CK;have wP:=qH hth;clear CL CK hth;have ai:ZZ ZO.heap.size ZO ((wr.alloc (.cells #[D J (p:Int),G E,D J (d:Int)] 90)).alloc (.cells #[D J (p:Int),G Q,D J (d:Int)] 90)):=(hbr.alloc hbr.size _).alloc (by have:=hbr.size;simp;omega) _;have kl:Blk ((wr.alloc (.cells #[D J (p:Int),G E,D J (d:Int)] 90)).alloc (.cells #[D J (p:Int),G Q,D J (d:Int)] 90)) wr.heap.size 90 #[D J (p:Int),G E,D J (d:Int)]:=(Blk.new wr _ _).alloc _;have kr:Blk ((wr.alloc (.cells #[D J (p:Int),G E,D J (d:Int)] 90)).alloc (.cells #[D J (p:Int),G Q,D J (d:Int)] 90)) (wr.heap.size+1) 90 #[D J (p:Int),G Q,D J (d:Int)]:=heap_alloc2_new wr _ _;go_upto_region 8 with fail
     generalize (wr.alloc (.cells #[D J (p:Int),G E,D J (d:Int)] 90)).alloc (.cells #[D J (p:Int),G Q,D J (d:Int)] 90)=X at ai kl kr ⊢;obtain ⟨l0,l1,l2⟩:=cQ3 kl;go_wp2_with fail
     refine (dZ.out _).mono ?_;rintro e Y ⟨rfl,hb⟩;have al:=zAa ai hb ai.size;have BK:=kl.below hb kl.lt;have oM:=kr.below hb kr.lt;clear l0 l1 l2 hb ai kl kr hbr;by_cases q1:NL=S
     ·have hres:=qH (show zGs S=Z ⟨(p:Int),E,(d:Int)⟩ from zCA (wP.out E) (HL.out.trans q1));have n0:((bA NL).toList==(bA S).toList)=Q:=by rw [zBt];simpa using q1
      have ei:=hk0.below al hk0.lt;obtain ⟨c0,c1,c2⟩:=cQ3 BK;obtain ⟨d0,d1,d2⟩:=cQ3 ei;have z0:=ei.frozen 0;have z1:=ei.frozen 1;have z2:=ei.frozen 2;have hS:=qH (ei.store3 (D J (p:Int)) (G E) (D J (d:Int)));have gM:=qH (zCg (zAa ah al ah.size) (O w.heap.size) (D J (p:Int)) (G E) (D J (d:Int)));clear q1 BK oM ei al;go_wp2_with fail
      (try simp only [Exit.inBlock,Exit.then])
      exact zAF rfl rfl rfl hS.out Tryz.underlying90 rfl (by kernel_rfl) rfl ⟨by rw [hres.out];rfl,gM.out⟩
     ·have n0:((bA NL).toList==(bA S).toList)=E:=by rw [zBt];simpa using q1
      obtain ⟨c0,c1,c2⟩:=cQ3 oM;have tW:=qH q1;clear q1;go_wp2_with fail
      refine (iX.out _).mono ?_;rintro e ZR ⟨rfl,hb⟩;have bh:=zAa al hb al.size;have BJ:=oM.below hb oM.lt;clear c0 c1 c2 hb al BK oM;by_cases q2:NR=S
      ·have hres:=qH (show zGs S=Z ⟨(p:Int),Q,(d:Int)⟩ from zCA (wP.out Q) (HR.out.trans q2));have n1:((bA NR).toList==(bA S).toList)=Q:=by rw [zBt];simpa using q2
       have ei:=hk0.below bh hk0.lt;obtain ⟨c0,c1,c2⟩:=cQ3 BJ;obtain ⟨d0,d1,d2⟩:=cQ3 ei;have z0:=ei.frozen 0;have z1:=ei.frozen 1;have z2:=ei.frozen 2;have hS:=qH (ei.store3 (D J (p:Int)) (G Q) (D J (d:Int)));have gM:=qH (zCg (zAa ah bh ah.size) (O w.heap.size) (D J (p:Int)) (G Q) (D J (d:Int)));clear q2 BJ ei bh;go_wp2_with fail
       (try simp only [Exit.inBlock,Exit.then])
       exact zAF rfl rfl rfl hS.out Tryz.underlying90 rfl (by kernel_rfl) rfl ⟨by rw [hres.out];rfl,gM.out⟩
      ·have n1:((bA NR).toList==(bA S).toList)=E:=by rw [zBt];simpa using q2
       have D0:=qH (show ∀f,zAn f=Q->(f.p < (p:Int)∨f.p=(p:Int)/\f.d < ((d+1:Nat):Int))->zAj f≠S from fun f hf h=>by
        by_cases h5:f.p < (p:Int)∨f.p=(p:Int)/\f.d < (d:Int)
        ·exact HD.out f hf h5
        ·obtain ⟨fp,fr,fd⟩:=f
         simp only at h h5
         have h1:fp=(p:Int):=by
          rcases h with h | h
          ·exact absurd (.inl h) h5
          ·exact h.1
         have h2:fd=(d:Int):=by
          rcases h with h | h
          ·exact absurd (.inl h) h5
          ·have:¬fd < (d:Int):=fun e=>h5 (.inr ⟨h.1,e⟩)
           omega
         rw [h1,h2]
         cases fr with
         | false=>rw [HL.out];exact tW.out
         | true=>rw [HR.out];exact q2)
       clear q2 BJ HD;go_wp2_with fail
       go_roundw
       case rel=>exact ⟨d+1,by omega,by go_num,bh,D0⟩
       case measure=>simp [intOf];omega
    ·have i2:¬(d:Int)<=6:=by omega
     have DI:=qH (show ∀f,zAn f=Q->f.p < ((p+1:Nat):Int)->zAj f≠S from fun f hf h=>HD.out f hf (by
      have:=zAv.1 hf
      omega))
     clear HD HP;go_wp2_with fail
     go_roundw
     case rel=>exact ⟨p+1,by omega,by omega,by go_num,hbr,DI⟩
     case measure=>simp [intOf];omega
  ·have i1:¬(p:Int)<=9:=by omega
   have hres:=qH (show zGs S=U from zKD fun f hf=>HP.out f hf (by have:=zAv.1 hf;omega));have ei:=hk0.below hbr hk0.lt;obtain ⟨d0,d1,d2⟩:=cQ3 ei;have z0:=ei.frozen 0;have z1:=ei.frozen 1;have z2:=ei.frozen 2;have hS:=qH (ei.store3 (D J 0) (G E) (D J 0));have gM:=qH (zCg (zAa ah hbr ah.size) (O w.heap.size) (D J 0) (G E) (D J 0));clear ei HP hbr;go_wp2_with fail
   (try simp only [Exit.inBlock,Exit.then])
   exact zAF rfl rfl rfl hS.out Tryz.underlying90 rfl (by kernel_rfl) rfl ⟨by rw [hres.out];rfl,gM.out⟩
theorem Stps.one (w:ZY) (x:Sp) (hx:SgOk x.s) (t:TypeId) :
  Stps (w.alloc (.cells #[D J x.s.f,D J x.s.l,G x.s.far,D J x.s.pc,G x.over] t)) (Z ⟨w.heap.size,0,U⟩) 1 [x]:=by
 refine ⟨⟨rfl,by omega,fun _=>⟨_,_,rfl,by simp,fun j y hy q v hv=>?_⟩⟩,fun e he=>?_⟩
 ·rcases j with _ | j
  ·simp only [List.getElem?_cons_zero,Option.some.injEq] at hy;subst hy;rw [Nat.zero_mul,Nat.add_zero,Nat.zero_add,World.cell?_alloc_at _ _ _ _ rfl,<-Array.getElem?_toList];exact hv
  ·simp at hy
 ·obtain rfl:e=x:=by simpa using he
  exact hx
theorem zBj {x:Int} (h0:0<=x) (h1:x<=1000000):I64 x:=⟨by omega,by omega⟩
theorem zXr:∀x∈stdF,FgOk x:=fun x hx=>by
 simp only [stdF,List.mem_cons,List.not_mem_nil,or_false] at hx;rcases hx with rfl | rfl | rfl | rfl | rfl | rfl | rfl | rfl | rfl | rfl<;>exact ⟨⟨by decide,by decide⟩,⟨by decide,by decide⟩⟩
theorem zXs:OgOk exO:=⟨zBj (by decide) (by decide),zBj (by decide) (by decide),⟨zBj (by decide) (by decide),zBj (by decide) (by decide),zBj (by decide) (by decide)⟩⟩
theorem zXt (w:ZY):(Instr.build 29 #[(0,D J 5),(1,D J 1)]).run ZX w=.ok (.agg #[D J 5,D J 1,G E,D J 0]) w:=run_build w _ _ _ (by kernel_rfl)
theorem zXu (w:ZY):(Instr.build 29 #[(0,D J 6),(1,D J 1)]).run ZX w=.ok (.agg #[D J 6,D J 1,G E,D J 0]) w:=run_build w _ _ _ (by kernel_rfl)
theorem zXv (w:ZY):(Instr.build 86 #[(0,.agg #[D J 6,D J 1,G E,D J 0]),(1,G Q)]).run ZX w=.ok (.agg #[D J 6,D J 1,G E,D J 0,G Q]) w:=run_build w _ _ _ (by kernel_rfl)
theorem zVN:(Tryz.prog.info? 86).map (fun i=>(i.zero,i.size,i.bytes))=Z (Z (.agg #[D J 0,D J 0,G E,D J 0,G E]),5,40):=by kernel_rfl
theorem zXw (w:ZY):(Instr.buildSlice 30 1 #[(0,.agg #[D J 6,D J 1,G E,D J 0,G Q])]).run ZX w=.ok (H (Z ⟨w.heap.size,0,U⟩) 1 1) (w.alloc (.cells #[D J 6,D J 1,G E,D J 0,G Q] 86)):=by
 obtain ⟨i0,hi,cD,bu,cM⟩:=info_parts zVN;refine run_buildSlice w _ _ 1 _ _ i0 _ Tryz.underlying30 hi cD (by rw [bu];omega) (by rw [bu];omega) ?_;rw [bu]
 kernel_rfl
theorem zXx (A:Option Addr) (w:ZY):(Instr.build 32 #[(0,D J 3),(1,D J 9),(2,.agg #[D J 5,D J 1,G E,D J 0]),(3,H A 1 1)]).run ZX w=.ok (.agg #[D J 3,D J 9,D J 5,D J 1,G E,D J 0,H A 1 1,G E]) w:=run_build w _ _ _ (by kernel_rfl)
section
variable {A:Option Addr} {c:Nat} {w:ZY}
theorem zSW (hA:Fgs w A 10 stdF) (hc:10<=c) (B:Option Addr) (hO:OpIn w exO B 1 1) (ht:Tabs w) :
  Calls ZX 41 #[frV A 10 c 6 4,opV exO B 1 1] w fun e w'=>e=.returned (.tuple #[W (bA zYz),D J 0])/\ZZ w.heap.size w w':=by
 have h:=zLz A 10 c stdF 6 4 exO B 1 1 w hA hc hO (by omega) ht;rw [zNn.1,qP rfl,zNn.2] at h;exact h
theorem zSX (hA:Fgs w A 10 stdF) (hc:10<=c) (ht:Tabs w) :
  Calls ZX 40 #[frV A 10 c 6 4,W (bA zNm),D J 2,D J 1] w fun e w'=>e=.returned (.tuple #[W (bA zYA),D J 0])/\ZZ w.heap.size w w':=by
 have h:=zDY ⟨A,10,c,stdF,6,4⟩ zNm 2 1 w hA hc ht;simp only at h;rw [zNp.1,zNp.2] at h;exact h
theorem zSY (hA:Fgs w A 10 stdF) (hc:10<=c) (ht:Tabs w) :
  Calls ZX 37 #[frV A 10 c 6 4,W (bA exS)] w (zSJ w 10 [exL 1] 0):=by
 have h:=zFG ⟨A,10,c,stdF,6,4⟩ exS w hA hc ht;simp only at h;rw [zYw] at h;exact h
theorem zNt (S:List UInt8) (ZQ:Int) (hE:zDt stdF S=ZQ) (hS:S.length<=8000) (hA:Fgs w A 10 stdF) (hc:10<=c) (ht:Tabs w) :
  Calls ZX 17 #[frV A 10 c 6 4,W (bA S)] w fun e w'=>∃(o:Og) (B:Option Addr) (m d:Nat),e=.returned (.tuple #[opV o B m d,D J ZQ])/\ZZ w.heap.size w w':=by
 have h:=zHB ⟨A,10,c,stdF,6,4⟩ S w hA hc ht;refine h.mono ?_;rintro e w' ⟨B,m,d,he,_,_,hb⟩;refine ⟨rdO stdF 6 4 S,B,m,d,?_,hb⟩;rw [he];have h0:zAC stdF 6 4 S=0:=by unfold zAC;rw [qP (by decide),qN (by omega)]
 have:rdE stdF 6 4 S=ZQ:=by unfold rdE;rw [qP h0,hE]
 simp only;rw [this]
theorem zSZ (hA:Fgs w A 10 stdF) (hc:10<=c) {B:Option Addr} {m d:Nat} (hB:Lets w B m (exL 1)) (ht:Tabs w) :
  Calls ZX 33 #[frV A 10 c 6 4,.agg #[D J 10,H B m d]] w fun e w'=>e=.returned (.tuple #[W (bA exS),D J 0])/\ZZ w.heap.size w w':=by
 have h:=zIh A 10 c stdF 6 4 10 B m d (exL 1) w hA hc hB ht;rw [zUc.1,zUc.2] at h;exact h
theorem zTa {B:Option Addr} {m d:Nat} (hB:Lets w B m (exL 1)) :
  Calls ZX 50 #[.agg #[D J 10,H B m d]] w fun e w'=>e=.returned (W (bA exP))/\ZZ w.heap.size w w':=by
 have h:=zMq 10 B m d (exL 1) w hB (by have:=hB.len;simp [exL] at this;omega) (zBj (by decide) (by decide));rw [zSU] at h;exact h
end
theorem zTb {w:ZY} {base:Nat} {B:Option Addr} {m d:Nat} {Es:List Ce} (h:CodesOwn w base 10 B m d Es) (hE:List.map (fun x:Ce=>x.L) Es=[exL 1]) :
  m=1/\∃(g o:Nat) (e:Ce),B=Z ⟨g,o,U⟩/\g < w.heap.size/\w.cell? ⟨g,o,U⟩=Z (D J 10)/\w.cell? ⟨g,o+1,U⟩=Z (H e.A e.n e.c)/\Lets w e.A e.n (exL 1):=by
 have hl:=h.len;rcases Es with _ | ⟨e,_ | ⟨e2,Es⟩⟩
 ·simp at hE
 ·simp only [List.map_cons,List.map_nil,List.cons.injEq,and_true] at hE;obtain rfl:m=1:=hl.symm;obtain ⟨g,o,rfl,_,hlt⟩:=h.row.form (by omega);have hL:=(h.ok e (List.mem_singleton.2 rfl)).1;rw [hE] at hL;exact ⟨rfl,g,o,e,rfl,hlt,h.row.cell (j:=0) rfl,h.row.cell (j:=1) rfl,hL⟩
 ·simp at hE
theorem zEa (w:ZY) (ht:Tabs w):Calls ZX 16 #[] w fun e w'=>e=.returned (G Q)/\ZZ w.heap.size w w':=by
 have HT:=qH ht;clear ht;go_enter Tryz.func16,Tryz.ntmps16;go_wp2_with fail
 refine (zJQ _).mono ?_;rintro e w1 ⟨A,c,rfl,hrow,hb⟩;have hcap:10<=c:=hrow.cap;have HF:=qH (show Fgs w1 A 10 stdF from ⟨(show Row w1 w.heap.size 3 A 10 c (stdF.flatMap zXP) from hrow).els (fun _=>rfl) (by omega) (by omega),zXr⟩);replace HT:=qH (HT.out.below hb);have HB:=qH hb;have pO:=qH hcap;clear hrow hb hcap;have hba:=(M w1.heap.size w1).alloc (O _) (.cells #[H A 10 c,D J 6,D J 4] 24);replace HF:=qH (HF.out.below hba);replace HT:=qH (HT.out.below hba);replace HB:=qH (zAa HB.out hba HB.out.size);have kf:=Blk.new w1 24 #[H A 10 c,D J 6,D J 4];clear hba;go_upto_region 2 with fail
 generalize w1.alloc (.cells #[H A 10 c,D J 6,D J 4] 24)=X1 at HF HT HB kf ⊢;have hba:=(M X1.heap.size X1).alloc (O _) (.cells #[D J 6,D J 1,G E,D J 0,G Q] 86);replace HF:=qH (HF.out.below hba);replace HT:=qH (HT.out.below hba);replace HB:=qH (zAa HB.out hba HB.out.size);replace kf:=kf.below hba kf.lt;have HP:=qH (Stps.one X1 ⟨⟨6,1,E,0⟩,Q⟩ ⟨zBj (by decide) (by decide),zBj (by decide) (by decide),zBj (by decide) (by decide)⟩ 86);have ko:Blk ((X1.alloc (.cells #[D J 6,D J 1,G E,D J 0,G Q] 86)).alloc (.cells #[D J 3,D J 9,D J 5,D J 1,G E,D J 0,H (Z ⟨X1.heap.size,0,U⟩) 1 1,G E] 32)) (X1.heap.size+1) 32 #[D J 3,D J 9,D J 5,D J 1,G E,D J 0,H (Z ⟨X1.heap.size,0,U⟩) 1 1,G E]:=heap_alloc2_new X1 _ _;clear hba;have hba:=(M (X1.alloc (.cells #[D J 6,D J 1,G E,D J 0,G Q] 86)).heap.size (X1.alloc (.cells #[D J 6,D J 1,G E,D J 0,G Q] 86))).alloc (O _) (.cells #[D J 3,D J 9,D J 5,D J 1,G E,D J 0,H (Z ⟨X1.heap.size,0,U⟩) 1 1,G E] 32);replace HF:=qH (HF.out.below hba);replace HT:=qH (HT.out.below hba);replace HB:=qH (zAa HB.out hba HB.out.size);replace kf:=kf.below hba kf.lt;replace HP:=qH (HP.out.below hba);clear hba;go_upto_region 3 with fail
 generalize (X1.alloc (.cells #[D J 6,D J 1,G E,D J 0,G Q] 86)).alloc (.cells #[D J 3,D J 9,D J 5,D J 1,G E,D J 0,H (Z ⟨X1.heap.size,0,U⟩) 1 1,G E] 32)=X2 at HF HT HB kf HP ko ⊢;obtain ⟨c0,c1,c2⟩:=cQ3 kf;obtain ⟨d0,d1,d2,d3,d4,d5,d6,d7⟩:=cQ8 ko;go_wp2_with fail
 refine (zSW HF.out pO.out (Z ⟨X1.heap.size,0,U⟩) ⟨zXs,HP.out,by omega⟩ HT.out).mono ?_;rintro e w2 ⟨rfl,hb⟩;clear c0 c1 c2 d0 d1 d2 d3 d4 d5 d6 d7;replace HF:=qH (HF.out.below hb);replace HT:=qH (HT.out.below hb);replace HB:=qH (zAa HB.out hb HB.out.size);replace kf:=kf.below hb kf.lt;replace HP:=qH (HP.out.below hb);replace ko:=ko.below hb ko.lt;clear hb;clear ko HP;obtain ⟨c0,c1,c2⟩:=cQ3 kf;go_wp2_with fail
 refine (zSX HF.out pO.out HT.out).mono ?_;rintro e w3 ⟨rfl,hb⟩;clear c0 c1 c2;replace HF:=qH (HF.out.below hb);replace HT:=qH (HT.out.below hb);replace HB:=qH (zAa HB.out hb HB.out.size);replace kf:=kf.below hb kf.lt;clear hb;obtain ⟨c0,c1,c2⟩:=cQ3 kf;go_wp2_with fail
 refine (zSY HF.out pO.out HT.out).mono ?_;rintro e w4 ⟨B,m,d,Es,rfl,hE,hm,hO,hb⟩;clear c0 c1 c2;replace HF:=qH (HF.out.below hb);replace HT:=qH (HT.out.below hb);replace HB:=qH (zAa HB.out hb HB.out.size);replace kf:=kf.below hb kf.lt;obtain ⟨rfl,g,o,⟨eL,eA,en,ec⟩,rfl,hg,q0,q1,hL⟩:=zTb hO hE;simp only at q1 hL;have HQ:=qH (show g < w4.heap.size/\w4.cell? ⟨g,o,U⟩=Z (D J 10)/\w4.cell? ⟨g,o+1,U⟩=Z (H eA en ec) from ⟨hg,q0,q1⟩);have HL:=qH hL;clear hE hm hO hb hg q0 q1 hL;obtain ⟨c0,c1,c2⟩:=cQ3 kf;go_wp2_with fail
 refine (zNt zYx 6 (zVG stdF) (by decide) HF.out pO.out HT.out).mono ?_;rintro e w5 ⟨⟨ok,of,⟨off,ofl,ofar,opc⟩,opath,oov⟩,oB,om,od,rfl,hb⟩;simp only;clear c0 c1 c2;replace HF:=qH (HF.out.below hb);replace HT:=qH (HT.out.below hb);replace HB:=qH (zAa HB.out hb HB.out.size);replace kf:=kf.below hb kf.lt;replace HL:=qH (HL.out.below hb);replace HQ:=qH (show g < w5.heap.size/\w5.cell? ⟨g,o,U⟩=Z (D J 10)/\w5.cell? ⟨g,o+1,U⟩=Z (H eA en ec) from ⟨Nat.lt_of_lt_of_le HQ.out.1 hb.size,(hb.cell (p:=⟨g,o,U⟩) HQ.out.1).trans HQ.out.2.1,(hb.cell (p:=⟨g,o+1,U⟩) HQ.out.1).trans HQ.out.2.2⟩);clear hb;have hba:=(M w5.heap.size w5).alloc (O _) (.cells #[D J ok,D J of,D J off,D J ofl,G ofar,D J opc,H oB om od,G oov] 32);replace HF:=qH (HF.out.below hba);replace HT:=qH (HT.out.below hba);replace HB:=qH (zAa HB.out hba HB.out.size);replace kf:=kf.below hba kf.lt;replace HL:=qH (HL.out.below hba);replace HQ:=qH (show g < (w5.alloc (.cells #[D J ok,D J of,D J off,D J ofl,G ofar,D J opc,H oB om od,G oov] 32)).heap.size/\(w5.alloc (.cells #[D J ok,D J of,D J off,D J ofl,G ofar,D J opc,H oB om od,G oov] 32)).cell? ⟨g,o,U⟩=Z (D J 10)/\(w5.alloc (.cells #[D J ok,D J of,D J off,D J ofl,G ofar,D J opc,H oB om od,G oov] 32)).cell? ⟨g,o+1,U⟩=Z (H eA en ec) from ⟨Nat.lt_of_lt_of_le HQ.out.1 hba.size,(hba.cell (p:=⟨g,o,U⟩) HQ.out.1).trans HQ.out.2.1,(hba.cell (p:=⟨g,o+1,U⟩) HQ.out.1).trans HQ.out.2.2⟩);clear hba;go_upto_region 7 with fail
 generalize w5.alloc (.cells #[D J ok,D J of,D J off,D J ofl,G ofar,D J opc,H oB om od,G oov] 32)=Z0 at HF HT HB kf HL HQ ⊢;obtain ⟨c0,c1,c2⟩:=cQ3 kf;go_wp2_with fail
 refine (zNt zYy 8 (zVH) (by decide) HF.out pO.out HT.out).mono ?_;rintro e w6 ⟨⟨ok,of,⟨off,ofl,ofar,opc⟩,opath,oov⟩,oB,om,od,rfl,hb⟩;simp only;clear c0 c1 c2;replace HF:=qH (HF.out.below hb);replace HT:=qH (HT.out.below hb);replace HB:=qH (zAa HB.out hb HB.out.size);replace kf:=kf.below hb kf.lt;replace HL:=qH (HL.out.below hb);replace HQ:=qH (show g < w6.heap.size/\w6.cell? ⟨g,o,U⟩=Z (D J 10)/\w6.cell? ⟨g,o+1,U⟩=Z (H eA en ec) from ⟨Nat.lt_of_lt_of_le HQ.out.1 hb.size,(hb.cell (p:=⟨g,o,U⟩) HQ.out.1).trans HQ.out.2.1,(hb.cell (p:=⟨g,o+1,U⟩) HQ.out.1).trans HQ.out.2.2⟩);clear hb;have hba:=(M w6.heap.size w6).alloc (O _) (.cells #[D J ok,D J of,D J off,D J ofl,G ofar,D J opc,H oB om od,G oov] 32);replace HF:=qH (HF.out.below hba);replace HT:=qH (HT.out.below hba);replace HB:=qH (zAa HB.out hba HB.out.size);replace kf:=kf.below hba kf.lt;replace HL:=qH (HL.out.below hba);replace HQ:=qH (show g < (w6.alloc (.cells #[D J ok,D J of,D J off,D J ofl,G ofar,D J opc,H oB om od,G oov] 32)).heap.size/\(w6.alloc (.cells #[D J ok,D J of,D J off,D J ofl,G ofar,D J opc,H oB om od,G oov] 32)).cell? ⟨g,o,U⟩=Z (D J 10)/\(w6.alloc (.cells #[D J ok,D J of,D J off,D J ofl,G ofar,D J opc,H oB om od,G oov] 32)).cell? ⟨g,o+1,U⟩=Z (H eA en ec) from ⟨Nat.lt_of_lt_of_le HQ.out.1 hba.size,(hba.cell (p:=⟨g,o,U⟩) HQ.out.1).trans HQ.out.2.1,(hba.cell (p:=⟨g,o+1,U⟩) HQ.out.1).trans HQ.out.2.2⟩);clear hba;go_upto_region 8 with fail
 generalize w6.alloc (.cells #[D J ok,D J of,D J off,D J ofl,G ofar,D J opc,H oB om od,G oov] 32)=Z1 at HF HT HB kf HL HQ ⊢;go_upto_region 10 with fail
 go_cut [13,4] (fun v13 v4 wv=>v13=W (bA exS)/\v4=D J 0/\∃V:ZY,V=wv/\ZZ Z1.heap.size Z1 V)
 case first =>
  have k0:∀wx,ZZ Z1.heap.size Z1 wx->(ZZ Z1.heap.size Z1 wx/\wx.cell? ⟨w1.heap.size,0,U⟩=Z (H A 10 c)/\wx.cell? ⟨w1.heap.size,1,U⟩=Z (D J 6)/\wx.cell? ⟨w1.heap.size,2,U⟩=Z (D J 4)/\wx.cell? ⟨g,o,U⟩=Z (D J 10)/\wx.cell? ⟨g,o+1,U⟩=Z (H eA en ec)):=fun wx h=>⟨h,((kf.below h kf.lt).cell 0).trans rfl,((kf.below h kf.lt).cell 1).trans rfl,((kf.below h kf.lt).cell 2).trans rfl,(h.cell (p:=⟨g,o,U⟩) HQ.out.1).trans HQ.out.2.1,(h.cell (p:=⟨g,o+1,U⟩) HQ.out.1).trans HQ.out.2.2⟩
  have KP:=qH k0;clear k0
  first
   | go_region_held3 (fun wx=>ZZ Z1.heap.size Z1 wx/\wx.cell? ⟨w1.heap.size,0,U⟩=Z (H A 10 c)/\wx.cell? ⟨w1.heap.size,1,U⟩=Z (D J 6)/\wx.cell? ⟨w1.heap.size,2,U⟩=Z (D J 4)/\wx.cell? ⟨g,o,U⟩=Z (D J 10)/\wx.cell? ⟨g,o+1,U⟩=Z (H eA en ec)) (first | assumption | exact KP.out _ (M _ _).drew | exact KP.out _ (zAa (And.left (by assumption)) (by assumption) (Below.size (And.left (by assumption)))))
     (first
      | (go_at_call 33;refine (zSZ (HF.out.below (And.left (by assumption))) pO.out (HL.out.below (And.left (by assumption))) (HT.out.below (And.left (by assumption)))).mono ?_;rintro e zz ⟨rfl,hzz⟩))
   | fail
  all_goals
   have hbf:=And.left (show ZZ Z1.heap.size Z1 _/\_ by assumption);go_wp2_with fail
   go_meet
   case rel=>exact ⟨rfl,rfl,_,rfl,hbf⟩
 case rest =>
  obtain ⟨rfl,rfl,V,hV,hb⟩:=hcut;subst hV;replace HF:=qH (HF.out.below hb);replace HT:=qH (HT.out.below hb);replace HB:=qH (zAa HB.out hb HB.out.size);replace kf:=kf.below hb kf.lt;replace HL:=qH (HL.out.below hb);replace HQ:=qH (show g < V.heap.size/\V.cell? ⟨g,o,U⟩=Z (D J 10)/\V.cell? ⟨g,o+1,U⟩=Z (H eA en ec) from ⟨Nat.lt_of_lt_of_le HQ.out.1 hb.size,(hb.cell (p:=⟨g,o,U⟩) HQ.out.1).trans HQ.out.2.1,(hb.cell (p:=⟨g,o+1,U⟩) HQ.out.1).trans HQ.out.2.2⟩);clear hb;have Ey:((bA zYz).toList==[112,105,99,107,32,82,50,32,111,118,101,114,32,82,53,32,110,101,97,114,32,108,111,111,112,32,49,44,32,102,114,111,109,32,76,53,32,110,101,97,114,32,108,111,111,112,32,49])=Q:=by rw [zAp];decide
  have Ex:((bA zYA).toList==[112,105,99,107,32,82,50,32,111,118,101,114,32,82,53,32,110,101,97,114,44,32,102,114,111,109,32,76,53,32,110,101,97,114,10])=Q:=by rw [zAp];decide
  have texP:((bA exP).toList==[49,48,58,32,49,46,49,32,48,46,49,32,49,117,43,32,57,46,49,32,49,48,46,49,32,49,111,43])=Q:=by rw [zAp];decide
  have texS:((bA exS).toList==[76,49,46,49,60,32,49,117,32,82,49,46,49,62,32,49,111])=Q:=by rw [zAp];decide
  have q0:=HQ.out.2.1;have q1:=HQ.out.2.2;go_wp2_with fail
  refine (zTa HL.out).mono ?_;rintro e V2 ⟨rfl,hb⟩;clear q0 q1;replace HF:=qH (HF.out.below hb);replace HT:=qH (HT.out.below hb);replace HB:=qH (zAa HB.out hb HB.out.size);replace kf:=kf.below hb kf.lt;replace HL:=qH (HL.out.below hb);clear hb;go_wp2_with fail
  go_ret;exact ⟨rfl,HB.out⟩
theorem zVO:∀x∈AL,FgOk x:=fun x hx=>by
 unfold AL at hx;obtain ⟨p,hp,hx⟩:=List.mem_flatMap.1 hx;obtain ⟨d,hd,hx⟩:=List.mem_flatMap.1 hx;have hp:=List.mem_range.1 hp;have hd:=List.mem_range.1 hd;simp only [List.mem_cons,List.not_mem_nil,or_false] at hx;rcases hx with rfl | rfl<;>exact ⟨zBj (by simp only;omega) (by simp only;omega),zBj (by simp only;omega) (by simp only;omega)⟩
theorem zDC {w:ZY} {base:Nat} {A:Option Addr} {c:Nat} (h:Row w base 3 A 126 c (AL.flatMap fgC)):Fgs w A 126 AL :=
 ⟨h.els (enc:=zXP) (fun _=>rfl) (by omega) (by omega),zVO⟩
theorem zLc {A:Option Addr} {n:Nat} {L:List Fg} {f:Fg} {k:Nat} (h:zAN L f=k) (c:Nat) (re lo:Int) (w:ZY) (hA:Fgs w A n L) :
  Calls ZX 53 #[.agg #[H A n c,D J re,D J lo],.agg #[D J f.p,G f.r,D J f.d]] w fun e w'=>e=.returned (D J (k:Int))/\ZZ w.heap.size w w':=by
 subst h;exact zIv A n c L re lo f w hA
theorem zMr (S:List UInt8) (w:ZY) :
  Calls ZX 99 #[W (bA S)] w fun e w'=>e=.returned (D J (fnA S:Int))/\ZZ w.heap.size w w':=by
 have HP:=qH (zIk S)
 cases hp:zGs S with
 | none =>
  have HR:=qH (show fnA S=0 by unfold fnA zDA;rw [hp]);simp only [hp,zVM,df] at HP;clear hp;go_enter Tryz.func99,Tryz.ntmps99;go_wp2_with fail
  refine (HP.out _).mono ?_;rintro e X ⟨rfl,hb⟩;have ai:ZZ w.heap.size w (X.alloc (.cells #[D J 0,G E,D J 0] 90)):=hb.alloc hb.size _;have HB:=qH ai;clear hb ai;go_wp2_with fail
  go_ret;exact ⟨zGD (by rw [HR.out];rfl),HB.out⟩
 | some f =>
  obtain ⟨k,hk⟩:∃k,zAN AL f=k:=⟨_,rfl⟩
  have HR:=qH (show fnA S=k by unfold fnA zDA;rw [hp];exact hk);have HK:=qH hk;simp only [hp,zVM] at HP;obtain ⟨p,r,d⟩:=f;clear hp hk;go_enter Tryz.func99,Tryz.ntmps99;go_wp2_with fail
  refine (HP.out _).mono ?_;rintro e X ⟨rfl,hb⟩;have ai:ZZ w.heap.size w (X.alloc (.cells #[D J p,G r,D J d] 90)):=hb.alloc hb.size _;have cu:Blk (X.alloc (.cells #[D J p,G r,D J d] 90)) X.heap.size 90 #[D J p,G r,D J d]:=Blk.new _ _ _;go_upto_region 4 with fail
  generalize X.alloc (.cells #[D J p,G r,D J d] 90)=Y at ai cu ⊢;generalize X.heap.size=b3 at cu ⊢;have HB:=qH ai;have GT:=qH cu;have y0:Y.cell? ⟨b3,0,U⟩=Z (D J p):=(cu.cell 0).trans rfl;have y1:Y.cell? ⟨b3,1,U⟩=Z (G r):=(cu.cell 1).trans rfl;have y2:Y.cell? ⟨b3,2,U⟩=Z (D J d):=(cu.cell 2).trans rfl;clear hb ai cu HP
  go_region_with (first
   | (go_at_call 56;refine (zCd _).mono ?_;rintro e wa ⟨A2,c2,rfl,eH,hba⟩;have hbd:ZZ Y.heap.size Y wa:=zAa ((M Y.heap.size Y).drew) hba (O _);have hka:=GT.out.below hbd GT.out.lt;have z0:wa.cell? ⟨b3,0,U⟩=Z (D J p):=(hka.cell 0).trans rfl;have z1:wa.cell? ⟨b3,1,U⟩=Z (G r):=(hka.cell 1).trans rfl;have z2:wa.cell? ⟨b3,2,U⟩=Z (D J d):=(hka.cell 2).trans rfl;have HFA:=qH (zDC eH);clear eH hba hka)
   | (go_at_call 53;refine (zLc HK.out _ _ _ _ HFA.out).mono ?_;rintro e wb ⟨rfl,hbb⟩))
  all_goals
   have hbf:=zAa (zAa HB.out hbd HB.out.size) hbb (Nat.le_trans HB.out.size hbd.size);go_wp2_with fail
   go_ret;exact ⟨zGD (by rw [HR.out]),hbf⟩
