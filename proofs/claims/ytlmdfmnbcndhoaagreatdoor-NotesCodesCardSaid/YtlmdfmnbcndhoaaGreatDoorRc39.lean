/-
  Lemmas, part 39. Conditions: each theorem's own.
-/
import Derived.Test.YtlmdfmnbcndhoaaGreatDoorRc38
import Derived.Test.YtlmdfmnbcndhoaaGreatDoorRc05
import Derived.Test.YtlmdfmnbcndhoaaGreatDoorRc12
import Derived.Test.YtlmdfmnbcndhoaaGreatDoorRc32
import Derived.Test.YtlmdfmnbcndhoaaGreatDoorRc02
import Derived.Deep.RegionHeld3
import Derived.Deep.DeepCutAuto
import Derived.Test.YtlmdfmnbcndhoaaGreatDoorRc03
import Derived.Test.YtlmdfmnbcndhoaaGreatDoorRc36
open Bool renaming false→E,true→Q
open Option renaming none→U,some→Z
open Go.Value renaming bool→G,int→D,slice→H,string→W
open Go.IntKind renaming i64→J
namespace Go.Proofs.YtlmdfmnbcndhoaaGreatDoor
open Go.RowKit
def exO:Og:=⟨3,9,⟨5,1,E,0⟩,[⟨⟨6,1,E,0⟩,Q⟩],E⟩
def zXR:List UInt8:=[112,105,99,107,32,82,50,32,111,118,101,114,32,82,53,32,110,101,97,114,32,108,111,111,112,32,49,44,32,102,114,111,109,32,76,53,32,110,101,97,114,32,108,111,111,112,32,49]
def zNf:List UInt8:=[82,50,60,82,53,110,111,60,76,53,110]
def zXS:List UInt8:=[112,105,99,107,32,82,50,32,111,118,101,114,32,82,53,32,110,101,97,114,44,32,102,114,111,109,32,76,53,32,110,101,97,114,10]
theorem zNg:zBi stdF 6 4 [exO]=0∧zDO stdF exO=zXR:=⟨by kernel_rfl,by kernel_rfl⟩
def exN:Nop:=⟨3,⟨1,Q,2⟩,Z ⟨⟨1,E,5⟩,0,E,0⟩,[(⟨⟨1,Q,5⟩,0,E,0⟩,Q)],E⟩
theorem zTK:okN exN∧zXC exN:=by
 have h1:zCV ⟨⟨1,E,5⟩,0,E,0⟩:=⟨by decide,by simp,by simp,by simp,by simp⟩;have h2:zCV ⟨⟨1,Q,5⟩,0,E,0⟩:=⟨by decide,by simp,by simp,by simp,by simp⟩;refine ⟨⟨by decide,.inr (.inr (.inl ⟨rfl,⟨_,rfl,h1⟩,fun y hy=>?_,rfl⟩))⟩,rfl,fun x hx=>?_,fun y hy=>?_⟩
 ·rw [List.mem_singleton.1 hy];exact h2
 ·injection hx with hx;rw [←hx];exact ⟨rfl,rfl,rfl⟩
 ·rw [List.mem_singleton.1 hy];exact ⟨rfl,rfl,rfl⟩
theorem zVk:zHC exN=zNf:=by kernel_rfl
theorem zNh:itE stdF zNf=0∧itO stdF zNf=[oOf stdF exN]:=by
 have hs:zAN 32 zNf=[zNf]:=by kernel_rfl
 have h:=zUz zTK.1 zTK.2;rw [zVk] at h;have ha:zDj (zAN 32 zNf)=Z [exN]:=by rw [hs,zDj,h,zDj]
 have hl:List.any [exN] (zAE stdF)=E:=by decide
 unfold itE itO;rw [if_neg (by decide),if_neg (by decide),ha];simp only [hl];exact ⟨rfl,rfl⟩
theorem zNi:trE stdF 6 4 zNf 2 1=0∧trS stdF 6 4 zNf 2 1=zXS:=by
 have hb:zAw stdF 6 4 zNf=0:=by kernel_rfl
 have hf:frB stdF 6 4=Q:=by kernel_rfl
 have h1:ntE stdF 6 4 2 zNf=0:=by
  unfold ntE rsE;rw [if_neg (by omega),if_pos hb];exact zNh.1
 have h2:ntO stdF 6 4 2 zNf=[oOf stdF exN]:=by
  unfold ntO rsO;rw [if_neg (by omega),if_pos hb];exact zNh.2
 have h3:trE stdF 6 4 zNf 2 1=0:=by
  unfold trE;rw [if_pos ⟨hf,.inr rfl,.inl rfl⟩,if_pos h1,if_neg (by omega)]
 refine ⟨h3,?_⟩;unfold trS;rw [if_pos h3,h2]
 kernel_rfl
end Go.Proofs.YtlmdfmnbcndhoaaGreatDoor
namespace Go.Proofs.YtlmdfmnbcndhoaaGreatDoor
open Go
def ovC (o:Bool):UInt8:=if o then 111 else 117
def sgC (s:Int):UInt8:=if s=1 then 43 else if s = -1 then 45 else 63
def ltS (l:Lt):List UInt8:=if l.kind=1 then Lib.itoa l.gate++[46]++Lib.itoa l.rank else if l.kind=2 then Lib.itoa l.id++[ovC l.over]++[sgC l.sign] else [63]
def zLa (L:List Lt):List UInt8:=L.flatMap (fun l=>32 :: ltS l)
def zCL (K:Int) (L:List Lt):List UInt8:=Lib.itoa K++[58]++zLa L
theorem zJQ (L:List Lt) (l:Lt):zLa (L++[l])=zLa L++([32]++ltS l):=by unfold zLa;rw [List.flatMap_append];simp
theorem zQG {x:Int} (h:I64 x):-9223372036854775808≤x∧x≤9223372036854775807:=h
theorem zQH {l:Lt} (h:LtOk l):(ltS l).length≤44:=by
 have hg:=zQG h.gate;have hr:=zQG h.rank;have hi:=zQG h.id;have h1:=Lib.itoa_length_le _ hg.1 hg.2;have h2:=Lib.itoa_length_le _ hr.1 hr.2;have h3:=Lib.itoa_length_le _ hi.1 hi.2;unfold ltS;split
 ·simp;omega
 ·split
  ·simp;omega
  ·simp
theorem zGy:∀{L:List Lt},(∀x∈L,LtOk x)→(zLa L).length≤45*L.length
 | [],_=>by simp [zLa]
 | l :: L,h=>by
  have h1:=zQH (h l (List.mem_cons_self ..));have h2:=zGy (fun x hx=>h x (List.mem_cons_of_mem _ hx));unfold zLa at h2 ⊢;rw [List.flatMap_cons,List.length_append,List.length_cons,List.length_cons];omega
theorem zOi {K:Int} {L:List Lt} (hK:I64 K) (h:∀x∈L,LtOk x):(zCL K L).length≤45*L.length+22:=by
 have h1:=Lib.itoa_length_le K hK.1 hK.2;have h2:=zGy h;unfold zCL;simp only [List.length_append,List.length_cons,List.length_nil];omega
end Go.Proofs.YtlmdfmnbcndhoaaGreatDoor
namespace Go.Proofs.YtlmdfmnbcndhoaaGreatDoor
open Go.RowKit
theorem zJR {x:Int} (hx:I64 x):(Lib.itoa x).length≤21:=Lib.itoa_length_le x hx.1 hx.2
end Go.Proofs.YtlmdfmnbcndhoaaGreatDoor
namespace Go.Proofs.YtlmdfmnbcndhoaaGreatDoor
open Go.RowKit
theorem zXT {L:List Lt} {i:Nat} (h:i < L.length):L[i]? = Z (la L i):=by unfold la;rw [List.getElem?_eq_getElem h];rfl
theorem zVl {L:List Lt} {i:Nat} (h:i < L.length):L.take (i+1)=L.take i++[la L i]:=by rw [List.take_add_one,zXT h];rfl
theorem zMh {K:Int} {L:List Lt} {i:Nat} (h:i < L.length):zCL K (L.take (i+1))=zCL K (L.take i)++32 :: ltS (la L i):=by
 unfold zCL;rw [zVl h,zJQ];simp
theorem zVm {L:List Lt} (i:Nat) (h:∀x∈L,LtOk x):∀x∈L.take i,LtOk x:=fun x hx=>h x (List.mem_of_mem_take hx)
end Go.Proofs.YtlmdfmnbcndhoaaGreatDoor
namespace Go.Proofs.YtlmdfmnbcndhoaaGreatDoor
open Go.RowKit
theorem zNj (sign:Int):((sign==1)=Q∧sgC sign=43)∨((sign==1)=E∧(sign==-1)=Q∧sgC sign=45)∨((sign==1)=E∧(sign==-1)=E∧sgC sign=63):=by
 unfold sgC;by_cases h1:sign=1
 ·exact .inl ⟨by simpa using h1,by rw [if_pos h1]⟩
 ·by_cases h2:sign = -1
  ·exact .inr (.inl ⟨by simpa using h1,by simpa using h2,by rw [if_neg h1,if_pos h2]⟩)
  ·exact .inr (.inr ⟨by simpa using h1,by simpa using h2,by rw [if_neg h1,if_neg h2]⟩)
set_option maxRecDepth 100000 in
set_option maxHeartbeats 6400000 in
theorem zMi (K:Int) (A:Option Addr) (n c:Nat) (L:List Lt) (w:World) (hA:Lets w A n L) (hn:n≤1000) (hK:I64 K) :
  Calls Tryz.prog 50 #[.agg #[D J K,H A n c]] w fun e w'=>e=.returned (W (bA (zCL K L)))∧Below w.heap.size w w':=by
 have aA:=qH hA.len;have hbx:=Boxed.refl w K A n c;have HK:=qH hK;have hok:=hA.fits;have dP:=qH hok;have zK:=zJR hK;have s0:=zAx (Lib.itoa K) [58] (by omega) (by simp);rw [show bA [58]=⟨#[58]⟩ from rfl] at s0;have hst:Hid (bA (Lib.itoa K++[58])=bA (zCL K (L.take 0))):=qH (by unfold zCL zLa;simp);have x0:=hbx.c0;clear hK hok;go_enter Tryz.func50,Tryz.ntmps50;go_wp2_with fail
 refine (zBL K HK.out _).mono ?_;rintro e w1 ⟨rfl,ah⟩;have ab:=hbx.more ah;clear hbx ah x0;go_wp2_with fail
 go_loopw [3,4,5,6] (fun v3 v4 _ _ wr=>∃(i:Nat) (S:ByteArray),i≤n∧v4=D J i∧v3=W S∧Boxed w wr K A n c∧Hid (S=bA (zCL K (L.take i)))) (fun _ v4 _ _ _=>n-(intOf v4).toNat)
 case atStart=>exact ⟨0,_,Nat.zero_le _,rfl,rfl,ab,hst⟩
 case round =>
  obtain ⟨i,S,hi,rfl,rfl,hbr,HS⟩:=hrel;clear hst ab;have x1:=hbr.c1;by_cases hlt:i < n
  ·obtain ⟨gg,o,rfl,hgg,hx,hok⟩:=(hA.below hbr.below).at_ hlt;obtain ⟨y0,y1,y2,y3,y4,y5⟩:=hx;have hil:i < L.length:=by rw [aA.out];exact hlt
   have zw:=zQH hok;have zp:=zOi HK.out (zVm i dP.out);have zt:(L.take i).length≤1000:=by rw [List.length_take];omega
   have i0:(0:Int)≤(i:Int):=by omega
   have i1:(i:Int) < (n:Int):=by omega
   have s1:=zAx (zCL K (L.take i)) [32] (by omega) (by simp);have s2:=zAx (zCL K (L.take i)++[32]) (ltS (la L i)) (by simp;omega) (by omega);rw [show bA [32]=⟨#[32]⟩ from rfl] at s1;rw [←HS.out] at s1;obtain ⟨ZZ,hD⟩:∃ZZ,ZZ=bA (zCL K (L.take i)++[32]):=⟨_,rfl⟩
   obtain ⟨ZT,hE⟩:∃ZT,ZT=bA ((zCL K (L.take i)++[32])++ltS (la L i)):=⟨_,rfl⟩
   obtain ⟨ZR,hW⟩:∃ZR,ZR=bA (ltS (la L i)):=⟨_,rfl⟩
   rw [←hE,←hD,←hW] at s2;rw [←hD] at s1;have et:=qH (show ZT=bA (zCL K (L.take (i+1))) by rw [hE,zMh hil];simp);have HW:=qH hW;have bj:=qH (show I64 (la L i).gate∧I64 (la L i).rank∧I64 (la L i).id from ⟨hok.gate,hok.rank,hok.id⟩);obtain ⟨kind,hk⟩:∃k,(la L i).kind=k:=⟨_,rfl⟩
   obtain ⟨gate,hg⟩:∃k,(la L i).gate=k:=⟨_,rfl⟩
   obtain ⟨rank,hr⟩:∃k,(la L i).rank=k:=⟨_,rfl⟩
   obtain ⟨id,hid⟩:∃k,(la L i).id=k:=⟨_,rfl⟩
   obtain ⟨sign,hs⟩:∃k,(la L i).sign=k:=⟨_,rfl⟩
   obtain ⟨over,ho⟩:∃k,(la L i).over=k:=⟨_,rfl⟩
   have hl:la L i=⟨kind,gate,rank,id,sign,over⟩:=by rw [←hk,←hg,←hr,←hid,←hs,←ho]
   rw [hk] at y0;rw [hg] at y1;rw [hr] at y2;rw [hid] at y3;rw [hs] at y4;rw [ho] at y5;rw [hg,hr,hid] at bj;rw [hl] at HW;have zG:=zJR bj.out.1;have zR:=zJR bj.out.2.1;have zI:=zJR bj.out.2.2;clear HS hD hE hW zw zp zt hok hk hg hr hid hs ho hl;go_upto_region 6 with fail
   obtain ⟨X,hX⟩:∃X,X=wr.alloc (.cells #[D J kind,D J gate,D J rank,D J id,D J sign,G over] 76):=⟨_,rfl⟩
   rw [←hX];have hk0:Blk X wr.heap.size 76 #[D J kind,D J gate,D J rank,D J id,D J sign,G over]:=by rw [hX];exact Blk.new _ _ _
   have aE:Boxed w X K (Z ⟨gg,o,U⟩) n c:=by rw [hX];exact hbr.alloc _
   have nr:=hk0.lt;clear hX y0 y1 y2 y3 y4 y5 x1 hbr;obtain ⟨c0,c1,c2,c3⟩:=cQ4 hk0;by_cases k1:kind=1
   ·have q1:(kind==1)=Q:=by simpa using k1
    have q2:(kind==2)=E:=by simp;omega
    have hf:=show ZR=bA (Lib.itoa gate++46 :: Lib.itoa rank) by rw [HW.out];unfold ltS;rw [if_pos k1];simp
    have t1:=zAx (Lib.itoa gate) [46] (by omega) (by simp);have t2:=zAx (Lib.itoa gate++[46]) (Lib.itoa rank) (by simp;omega) (by omega);rw [show bA [46]=⟨#[46]⟩ from rfl] at t1;rw [hf] at s2;clear k1 zI zG zR HW hf;have KP:=qH (show ∀wx,Below X.heap.size X wx→(Below X.heap.size X wx∧wx.cell? ⟨wr.heap.size,1,U⟩=Z (D J gate)∧wx.cell? ⟨wr.heap.size,2,U⟩=Z (D J rank)) from fun wx h=>⟨h,(h.cell (p:=⟨wr.heap.size,1,U⟩) nr).trans c1,(h.cell (p:=⟨wr.heap.size,2,U⟩) nr).trans c2⟩);go_wp2_with fail
    first
     | go_region_held3 (fun wx=>Below X.heap.size X wx∧wx.cell? ⟨wr.heap.size,1,U⟩=Z (D J gate)∧wx.cell? ⟨wr.heap.size,2,U⟩=Z (D J rank)) (first | assumption | exact KP.out _ (Below.refl _ _).drew | exact KP.out _ (zAa (And.left (by assumption)) (by assumption) (Below.size (And.left (by assumption)))))
       (first
        | (go_at_call 78;refine (zBL gate bj.out.1 _).mono ?_;rintro e wx ⟨rfl,ai⟩)
        | (go_at_call 78;refine (zBL rank bj.out.2.1 _).mono ?_;rintro e wx ⟨rfl,ai⟩))
     | fail
    all_goals
     have hbf:=And.left (show Below X.heap.size X _∧_ by assumption);have e0:World.cell? _ ⟨wr.heap.size,0,U⟩=Z (D J kind):=((hk0.below hbf nr).cell 0).trans rfl;clear hk0;have jv:=aE.more hbf;clear aE;go_wp2_with fail
     go_roundw
     case rel=>exact ⟨i+1,ZT,by omega,by go_num,rfl,jv,et⟩
     case measure=>simp [intOf];omega
   ·have q1:(kind==1)=E:=by simpa using k1
    by_cases k2:kind=2
    ·have q2:(kind==2)=Q:=by simpa using k2
     have t1:=zAx (Lib.itoa id) [117] (by omega) (by simp);have t2:=zAx (Lib.itoa id) [111] (by omega) (by simp);have t3:=zAx (Lib.itoa id++[117]) [43] (by simp;omega) (by simp);have t4:=zAx (Lib.itoa id++[117]) [45] (by simp;omega) (by simp);have t5:=zAx (Lib.itoa id++[117]) [63] (by simp;omega) (by simp);have t6:=zAx (Lib.itoa id++[111]) [43] (by simp;omega) (by simp);have t7:=zAx (Lib.itoa id++[111]) [45] (by simp;omega) (by simp);have t8:=zAx (Lib.itoa id++[111]) [63] (by simp;omega) (by simp);rw [show bA [117]=⟨#[117]⟩ from rfl] at t1;rw [show bA [111]=⟨#[111]⟩ from rfl] at t2;rw [show bA [43]=⟨#[43]⟩ from rfl] at t3 t6;rw [show bA [45]=⟨#[45]⟩ from rfl] at t4 t7;rw [show bA [63]=⟨#[63]⟩ from rfl] at t5 t8;clear zG zR zI c1 c2
     cases over with
     | false =>
      rcases zNj sign with ⟨n1,hS⟩ | ⟨n1,n2,hS⟩ | ⟨n1,n2,hS⟩
      all_goals
       have hf:=show ZR=bA (Lib.itoa id++[ovC E,sgC sign]) by rw [HW.out];unfold ltS;rw [if_neg k1,if_pos k2];simp
       rw [hS,show ovC E=117 from rfl] at hf;rw [hf] at s2;clear hS hf HW;go_wp2_with fail
       refine (zBL id bj.out.2.2 _).mono ?_;rintro e w2 ⟨rfl,ac⟩;have hk2:=hk0.below ac nr;obtain ⟨-,-,-,-,d4,d5⟩:=cQ6 hk2;clear hk2 hk0;have jv:=aE.more ac;clear aE;go_wp2_with fail
       go_roundw
       case rel=>exact ⟨i+1,ZT,by omega,by go_num,rfl,jv,et⟩
       case measure=>simp [intOf];omega
     | true =>
      rcases zNj sign with ⟨n1,hS⟩ | ⟨n1,n2,hS⟩ | ⟨n1,n2,hS⟩
      all_goals
       have hf:=show ZR=bA (Lib.itoa id++[ovC Q,sgC sign]) by rw [HW.out];unfold ltS;rw [if_neg k1,if_pos k2];simp
       rw [hS,show ovC Q=111 from rfl] at hf;rw [hf] at s2;clear hS hf HW;go_wp2_with fail
       refine (zBL id bj.out.2.2 _).mono ?_;rintro e w2 ⟨rfl,ac⟩;have hk2:=hk0.below ac nr;obtain ⟨-,-,-,d3,-,d5⟩:=cQ6 hk2;have AY:=hk2.lt;go_wp2_with fail
       refine (zBL id bj.out.2.2 _).mono ?_;rintro e w3 ⟨rfl,aj⟩;have e4:w3.cell? ⟨wr.heap.size,4,U⟩=Z (D J sign):=((hk2.below aj AY).cell 4).trans rfl;have ai:=ac.trans (aj.mono ac.size);clear d3 d5 hk2 hk0;have jv:=aE.more ai;clear aE;go_wp2_with fail
       go_roundw
       case rel=>exact ⟨i+1,ZT,by omega,by go_num,rfl,jv,et⟩
       case measure=>simp [intOf];omega
    ·have q2:(kind==2)=E:=by simpa using k2
     have hf:=show ZR=bA [63] by rw [HW.out];unfold ltS;rw [if_neg k1,if_neg k2]
     rw [hf,show bA [63]=⟨#[63]⟩ from rfl] at s2;have ac:=Below.refl X.heap.size X;clear k1 k2 zG zR zI HW hf;have jv:=aE.more ac;clear aE;go_wp2_with fail
     go_roundw
     case rel=>exact ⟨i+1,ZT,by omega,by go_num,rfl,jv,et⟩
     case measure=>simp [intOf];omega
  ·have hin:i=n:=by omega
   have hS:=HS.out;rw [hin,List.take_of_length_le (by rw [aA.out];exact Nat.le_refl _)] at hS;have et:=qH hS;have i1:¬(i:Int) < (n:Int):=by omega
   clear hS hin HS;go_wp2_with fail
   go_ret;exact ⟨by rw [←et.out];rfl,hbr.below⟩
end Go.Proofs.YtlmdfmnbcndhoaaGreatDoor
namespace Go.Proofs.YtlmdfmnbcndhoaaGreatDoor
open Go.RowKit
def exP:List UInt8:=[49,48,58,32,49,46,49,32,48,46,49,32,49,117,43,32,57,46,49,32,49,48,46,49,32,49,111,43]
theorem zSN:zCL 10 (exL 1)=exP:=by kernel_rfl
end Go.Proofs.YtlmdfmnbcndhoaaGreatDoor
namespace Go.Proofs.YtlmdfmnbcndhoaaGreatDoor
open Go.RowKit
def fgC (f:Fg):List Value:=[D J f.p,G f.r,D J f.d]
theorem zNk:(Tryz.prog.info? 90).map (fun i=>(i.zero,i.size,i.bytes))=Z (Z (.agg #[D J 0,G E,D J 0]),3,24):=by kernel_rfl
theorem zXU (p d:Int) (r:Bool) (w:World):(Instr.buildSlice 22 1 #[(0,.agg #[D J p,G r,D J d])]).run Tryz.prog w=.ok (H (Z ⟨w.heap.size,0,U⟩) 1 1) (w.alloc (.cells #[D J p,G r,D J d] 90)):=by
 obtain ⟨i0,hi,aT,az,bt⟩:=info_parts zNk;refine run_buildSlice w _ _ 1 _ _ i0 _ Tryz.underlying22 hi aT (by rw [az];omega) (by rw [az];omega) ?_;rw [az]
 kernel_rfl
theorem zWJ {w:World} {ops:Array Oper} {rest:List Oper} {o:Oper} {a:Act} {Q':Exit→Act→World→Prop} (hgd:o.guard=U) (s x:Operand)
  (ho:o.op=.call { callee:=.builtin .append,args:=#[s,x],argTypes:=#[22,22] })
  {base:Nat} {A:Option Addr} {n c:Nat} {L:List Fg} (hst:Row w base 3 A n c (L.flatMap fgC)) (f:Fg) (hs:a.eval s=H A n c)
  (ZW:Nat) (hH:w.heap.size=ZW) (hx:a.eval x=H (Z ⟨ZW,0,U⟩) 1 1) (N:Nat) (hN:n+1=N) (hn:N≤1000000) (hbase:base≤w.heap.size)
  (h:∀A' c' w',Row w' base 3 A' N c' ((L++[f]).flatMap fgC)→w.grownBy w' (blk A)→(∀k,blk A'=Z k→blk A=Z k∨w.heap.size≤k)→wpList Tryz.prog ops Q' rest (a.put o.dst (H A' N c')) w') :
  wpList Tryz.prog ops Q' (o :: rest) a (w.alloc (.cells #[D J f.p,G f.r,D J f.d] 90)):=by
 subst hH;obtain ⟨i0,hi,aT,az,bt⟩:=info_parts zNk
 refine zOy hgd s x 22 ho 90 i0 _ 3 24 Tryz.underlying22 hi aT az bt rfl (by decide) (hst.alloc _) (Src.new (m:=1) (cs:=fgC f) rfl)
  (by intro u hu;simp [fgC] at hu;rcases hu with rfl | rfl | rfl<;>rfl) hs hx N hN (by unfold maxLen;omega) (by omega) (by simp;omega) ?_
 intro A' c' w' h1 h2 h3 _;refine h A' c' w' (by rw [List.flatMap_append];simpa using h1) (zAb (World.grownBy_alloc w _ _) h2) (fun k hk=>?_);rcases h3 k hk with h | h
 ·exact .inl h
 ·right;simp at h;omega
end Go.Proofs.YtlmdfmnbcndhoaaGreatDoor
namespace Go.Proofs.YtlmdfmnbcndhoaaGreatDoor
open Go.RowKit
theorem zWK {i:Nat} (h:i < 5):(stdF.take i)++[⟨1,E,(i:Int)+1⟩]=stdF.take (i+1):=by
 rcases i with _ | _ | _ | _ | _ | i<;>first | rfl | omega
theorem zSO {i:Nat} (h:i < 5):(stdF.take (5+i))++[⟨1,Q,5-(i:Int)⟩]=stdF.take (5+i+1):=by
 rcases i with _ | _ | _ | _ | _ | i<;>first | rfl | omega
end Go.Proofs.YtlmdfmnbcndhoaaGreatDoor
namespace Go.Proofs.YtlmdfmnbcndhoaaGreatDoor
open Go.RowKit
structure FbW (Y w:World) (oB:Nat) (re lo:Int) (A:Option Addr) (n c:Nat) (L:List Fg):Prop where
 own:Row w Y.heap.size 3 A n c (L.flatMap fgC)
 bk:Blk w oB 24 #[H A n c,D J re,D J lo]
 far:∀q,blk A=Z q→q≠oB
 old:Below Y.heap.size Y w
theorem FbW.pushed {Y w w':World} {oB:Nat} {re lo:Int} {A A':Option Addr} {n c N c':Nat} {L L':List Fg} (h:FbW Y w oB re lo A n c L) (hY:Y.heap.size≤oB) (hown:Row w' Y.heap.size 3 A' N c' (L'.flatMap fgC)) (hg:w.grownBy w' (blk A)) (hl:∀k,blk A'=Z k→blk A=Z k∨w.heap.size≤k) :
  Blk w' oB 24 #[H A n c,D J re,D J lo]∧FbW Y (w'.setCell ⟨oB,0,U⟩ (H A' N c')) oB re lo A' N c' L':=by
 have hb:Blk w' oB 24 #[H A n c,D J re,D J lo]:=h.bk.grown hg (fun e=>h.far oB e.symm rfl);have hf:∀q,blk A'=Z q→q≠oB:=fun q hq=>by
  rcases hl q hq with e | e
  ·exact h.far q e
  ·have:=h.bk.lt;omega
 have hold:Below Y.heap.size Y w':=h.old.trans ((Below.refl _ _).grown hg h.old.size (fun k hk=>(h.own.lt k hk).1));exact ⟨hb,⟨hown.farSet 0 _ hf,hb.set_ 0 _,hf,hold.setCell (p:=⟨oB,0,U⟩) hY _⟩⟩
theorem zXm (w:World):(Instr.build 24 #[(1,D J 6),(2,D J 4)]).run Tryz.prog w=.ok (.agg #[H U 0 0,D J 6,D J 4]) w:=run_build w _ _ _ (by kernel_rfl)
theorem zLb (p d:Int) (w:World):(Instr.build 90 #[(0,D J p),(2,D J d)]).run Tryz.prog w=.ok (.agg #[D J p,G E,D J d]) w:=run_build w _ _ _ (by kernel_rfl)
theorem zLc (p d:Int) (w:World):(Instr.build 90 #[(0,D J p),(1,G Q),(2,D J d)]).run Tryz.prog w=.ok (.agg #[D J p,G Q,D J d]) w:=run_build w _ _ _ (by kernel_rfl)
set_option maxHeartbeats 6400000 in
set_option maxRecDepth 100000 in
theorem zJS (w:World):Calls Tryz.prog 49 #[D J 1] w fun e w'=>∃A c,e=.returned (frV A 10 c 6 4)∧Row w' w.heap.size 3 A 10 c (stdF.flatMap fgC)∧Below w.heap.size w w':=by
 have aa:Below w.heap.size w (w.alloc (.cells #[H U 0 0,D J 0,D J 0] 24)):=(Below.refl _ _).alloc (Nat.le_refl _) _;have hk0:Blk (w.alloc (.cells #[H U 0 0,D J 0,D J 0] 24)) w.heap.size 24 #[H U 0 0,D J 0,D J 0]:=Blk.new _ _ _;go_enter Tryz.func49,Tryz.ntmps49;go_upto_region 1 with fail
 generalize w.alloc (.cells #[H U 0 0,D J 0,D J 0] 24)=Y at aa hk0 ⊢;have bF:FbW Y (Y.alloc (.cells #[H U 0 0,D J 6,D J 4] 24)) Y.heap.size 6 4 U 0 0 (stdF.take 0):=⟨Row.none_ _ _ _,Blk.new _ _ _,fun q hq=>(by cases hq),(Below.refl _ _).alloc (Nat.le_refl _) _⟩;go_upto_region 2 with fail
 generalize hZ:Y.alloc (.cells #[H U 0 0,D J 6,D J 4] 24)=ZU at bF ⊢;clear hZ;obtain ⟨oB,gC⟩:∃a,Y.heap.size=a:=⟨_,rfl⟩
 have mn:Y.heap.size≤oB:=by omega
 rw [gC];have bF:FbW Y ZU oB 6 4 U 0 0 (stdF.take 0):=by rw [←gC];exact bF
 clear gC;go_wp2_with fail
 go_loopw [4] (fun v4 wv=>∃(i:Nat) (p:Int) (X:World) (A1:Option Addr) (c1:Nat),X=wv∧i≤1∧v4=D J p∧Hid (p=(i:Int)+1)∧FbW Y X oB 6 4 A1 (10*i) c1 (stdF.take (10*i))) (fun v4 _=>2-(intOf v4).toNat)
 case atStart=>exact ⟨0,1,_,U,0,rfl,by omega,rfl,qH rfl,bF⟩
 case round =>
  obtain ⟨i,p,X,A1,c1,hX,hi,rfl,HP,hW⟩:=hrel;subst hX;clear bF;by_cases hlt:i < 1
  ·obtain rfl:i=0:=by omega
   obtain rfl:p=1:=HP.out;clear HP;have bF:FbW Y X oB 6 4 A1 0 c1 (stdF.take 0):=hW;clear hW;go_wp2_with fail
   go_loopw [5] (fun v5 wv=>∃(j:Nat) (q:Int) (X:World) (A1:Option Addr) (c1:Nat),X=wv∧j≤5∧v5=D J q∧Hid (q=(j:Int)+1)∧FbW Y X oB 6 4 A1 j c1 (stdF.take j)) (fun v5 _=>6-(intOf v5).toNat)
   case atStart=>exact ⟨0,1,_,A1,c1,rfl,by omega,rfl,qH rfl,bF⟩
   case round =>
    obtain ⟨j,q,X,A1,c1,hX,hj,rfl,HQ,hW⟩:=hrel;subst hX;clear bF;by_cases hjt:j < 5
    ·have j1:q≤5:=by have:=HQ.out;omega
     have j2:0≤q:=by have:=HQ.out;omega
     have wV:=qH (show stdF.take j++[⟨1,E,q⟩]=stdF.take (j+1) by rw [HQ.out];exact zWK hjt);have o0:X.cell? ⟨oB,0,U⟩=Z (H A1 j c1):=(hW.bk.cell 0).trans rfl;have aE:Y.heap.size≤X.heap.size:=hW.old.size;have td:j+1≤1000000:=by omega
     go_upto_region 9 with (at_builtin;refine zEw ?_)
     refine qH ?_;refine zWJ (base:=Y.heap.size) (A:=A1) (n:=j) (c:=c1) (L:=stdF.take j) rfl (.tmp 18) (.tmp 22) ?_ ?_ ⟨1,E,q⟩ ?_ X.heap.size rfl ?_ (j+1) rfl td aE ?_
     ·rfl
     ·exact hW.own
     ·rfl
     ·rfl
     intro A2 c2 w9 cv aQ hl9';obtain ⟨dq,ct⟩:=hW.pushed mn cv aQ hl9';have p1:w9.cell? ⟨oB,0,U⟩=Z (H A1 j c1):=(dq.cell 0).trans rfl;have z1:=dq.frozen 0;rw [wV.out] at ct;have fm:=qH ct;clear hW cv aQ hl9' ct dq o0;go_wp2_with fail
     go_roundw
     case rel=>exact ⟨j+1,q+1,_,A2,c2,rfl,by omega,by go_num,qH (by rw [HQ.out];omega),fm.out⟩
     case measure=>simp [intOf];omega
    ·obtain rfl:j=5:=by omega
     obtain rfl:q=6:=HQ.out;clear HQ;have db:FbW Y X oB 6 4 A1 (5+0) c1 (stdF.take (5+0)):=hW;clear hW;go_wp2_with fail
     go_loopw [6] (fun v6 wv=>∃(j:Nat) (X:World) (A1:Option Addr) (c1:Nat),X=wv∧j≤5∧v6=D J (5-(j:Int))∧FbW Y X oB 6 4 A1 (5+j) c1 (stdF.take (5+j))) (fun v6 _=>(intOf v6).toNat)
     case atStart=>exact ⟨0,_,A1,c1,rfl,by omega,by rfl,db⟩
     case round =>
      obtain ⟨j,X,A1,c1,hX,hj,rfl,hW⟩:=hrel;subst hX;clear db;by_cases hjt:j < 5
      ·have j1:(1:Int)≤5-(j:Int):=by omega
       have wV:=qH (zSO hjt);have o0:X.cell? ⟨oB,0,U⟩=Z (H A1 (5+j) c1):=(hW.bk.cell 0).trans rfl;have aE:Y.heap.size≤X.heap.size:=hW.old.size;have td:5+j+1≤1000000:=by omega
       go_upto_region 13 with (at_builtin;refine zEw ?_)
       refine qH ?_;refine zWJ (base:=Y.heap.size) (A:=A1) (n:=5+j) (c:=c1) (L:=stdF.take (5+j)) rfl (.tmp 30) (.tmp 34) ?_ ?_ ⟨1,Q,5-(j:Int)⟩ ?_ X.heap.size rfl ?_ (5+j+1) rfl td aE ?_
       ·rfl
       ·exact hW.own
       ·rfl
       ·rfl
       intro A2 c2 w9 cv aQ hl9';obtain ⟨dq,ct⟩:=hW.pushed mn cv aQ hl9';have p1:w9.cell? ⟨oB,0,U⟩=Z (H A1 (5+j) c1):=(dq.cell 0).trans rfl;have z1:=dq.frozen 0;rw [wV.out] at ct;have fm:=qH ct;clear hW cv aQ hl9' ct dq o0;go_wp2_with fail
       go_roundw
       case rel=>exact ⟨j+1,_,A2,c2,rfl,by omega,by go_num,fm.out⟩
       case measure=>simp [intOf];omega
      ·obtain rfl:j=5:=by omega
       have uj:=qH (show FbW Y X oB 6 4 A1 (10*(0+1)) c1 (stdF.take (10*(0+1))) from hW);clear hW;go_wp2_with fail
       go_roundw
       case rel=>exact ⟨0+1,2,_,A1,c1,rfl,by omega,by go_num,qH rfl,uj.out⟩
       case measure=>simp [intOf]
  ·obtain rfl:i=1:=by omega
   obtain rfl:p=2:=HP.out;clear HP;have pg:w.heap.size < Y.heap.size:=hk0.lt;have dh:=hk0.below hW.old pg;have e0:X.cell? ⟨oB,0,U⟩=Z (H A1 (10*1) c1):=(hW.bk.cell 0).trans rfl;have e1:X.cell? ⟨oB,1,U⟩=Z (D J 6):=(hW.bk.cell 1).trans rfl;have e2:X.cell? ⟨oB,2,U⟩=Z (D J 4):=(hW.bk.cell 2).trans rfl;obtain ⟨r0,r1,r2⟩:=cQ3 dh;have z0:=dh.frozen 0;have z1:=dh.frozen 1;have z2:=dh.frozen 2;have pD:=qH dh;have HW:=qH hW;have jq:=aa.size;clear hlt hW dh;go_wp2_with fail
   have hS:Blk (((X.setCell ⟨w.heap.size,0,U⟩ (H A1 (10*1) c1)).setCell ⟨w.heap.size,1,U⟩ (D J 6)).setCell ⟨w.heap.size,2,U⟩ (D J 4)) w.heap.size 24 #[H A1 (10*1) c1,D J 6,D J 4]:=((pD.out.set_ 0 _).set_ 1 _).set_ 2 _;have gS:=zAg (zAg (zAg (World.grownBy.refl X (Z w.heap.size)) (p:=⟨w.heap.size,0,U⟩) (.inl rfl) (H A1 (10*1) c1)) (p:=⟨w.heap.size,1,U⟩) (.inl rfl) (D J 6)) (p:=⟨w.heap.size,2,U⟩) (.inl rfl) (D J 4);have dT:=(((zAa aa HW.out.old jq).setCell (p:=⟨w.heap.size,0,U⟩) (Nat.le_refl _) (H A1 (10*1) c1)).setCell (p:=⟨w.heap.size,1,U⟩) (Nat.le_refl _) (D J 6)).setCell (p:=⟨w.heap.size,2,U⟩) (Nat.le_refl _) (D J 4);have pk:Row (((X.setCell ⟨w.heap.size,0,U⟩ (H A1 (10*1) c1)).setCell ⟨w.heap.size,1,U⟩ (D J 6)).setCell ⟨w.heap.size,2,U⟩ (D J 4)) w.heap.size 3 A1 10 c1 (stdF.flatMap fgC):=by
    refine (HW.out.own.kept gS ?_).mono jq
    cases hb:blk A1 with
    | none=>exact .inl rfl
    | some q=>exact .inr (by have:=(HW.out.own.lt q hb).1;simp;omega)
   (try simp only [Exit.inBlock,Exit.then])
   refine zAn rfl rfl hS Tryz.underlying24 rfl (by kernel_rfl) rfl ?_;exact ⟨A1,c1,rfl,pk,dT⟩
end Go.Proofs.YtlmdfmnbcndhoaaGreatDoor
namespace Go.Proofs.YtlmdfmnbcndhoaaGreatDoor
open Go.RowKit
theorem zVn {p d:Nat} (hp:p < 9) (hd:d < 7):AL.take (14*p+2*d)++[⟨(p:Int)+1,E,(d:Int)⟩,⟨(p:Int)+1,Q,(d:Int)⟩]=AL.take (14*p+2*d+2):=by
 have h:((List.range 9).all fun p=>(List.range 7).all fun d=>decide (AL.take (14*p+2*d)++[⟨(p:Int)+1,E,(d:Int)⟩,⟨(p:Int)+1,Q,(d:Int)⟩]=AL.take (14*p+2*d+2)))=Q:=by decide +kernel
 have h1:=List.all_eq_true.1 h p (List.mem_range.2 hp);have h2:=List.all_eq_true.1 h1 d (List.mem_range.2 hd);exact of_decide_eq_true h2
theorem zVo (p d p' d':Int) (r r':Bool) (w:World):(Instr.buildSlice 22 2 #[(0,.agg #[D J p,G r,D J d]),(1,.agg #[D J p',G r',D J d'])]).run Tryz.prog w =
  .ok (H (Z ⟨w.heap.size,0,U⟩) 2 2) (w.alloc (.cells #[D J p,G r,D J d,D J p',G r',D J d'] 90)):=by
 obtain ⟨i0,hi,aT,az,bt⟩:=info_parts zNk;refine run_buildSlice w _ _ 2 _ _ i0 _ Tryz.underlying22 hi aT (by rw [az];omega) (by rw [az];omega) ?_;rw [az]
 kernel_rfl
theorem zWL {w:World} {ops:Array Oper} {rest:List Oper} {o:Oper} {a:Act} {Q':Exit→Act→World→Prop} (hgd:o.guard=U) (s x:Operand)
  (ho:o.op=.call { callee:=.builtin .append,args:=#[s,x],argTypes:=#[22,22] })
  {base:Nat} {A:Option Addr} {n c:Nat} {L:List Fg} (hst:Row w base 3 A n c (L.flatMap fgC)) (f g:Fg) (hs:a.eval s=H A n c)
  (ZW:Nat) (hH:w.heap.size=ZW) (hx:a.eval x=H (Z ⟨ZW,0,U⟩) 2 2) (N:Nat) (hN:n+2=N) (hn:N≤1000000) (hbase:base≤w.heap.size)
  (h:∀A' c' w',Row w' base 3 A' N c' ((L++[f,g]).flatMap fgC)→w.grownBy w' (blk A)→(∀k,blk A'=Z k→blk A=Z k∨w.heap.size≤k)→wpList Tryz.prog ops Q' rest (a.put o.dst (H A' N c')) w') :
  wpList Tryz.prog ops Q' (o :: rest) a (w.alloc (.cells #[D J f.p,G f.r,D J f.d,D J g.p,G g.r,D J g.d] 90)):=by
 subst hH;obtain ⟨i0,hi,aT,az,bt⟩:=info_parts zNk
 refine zOy hgd s x 22 ho 90 i0 _ 3 24 Tryz.underlying22 hi aT az bt rfl (by decide) (hst.alloc _) (Src.new (m:=2) (cs:=fgC f++fgC g) rfl)
  (by intro u hu;simp [fgC] at hu;rcases hu with rfl | rfl | rfl | rfl | rfl | rfl<;>rfl) hs hx N hN (by unfold maxLen;omega) (by omega) (by simp;omega) ?_
 intro A' c' w' h1 h2 h3 _;refine h A' c' w' (by rw [List.flatMap_append];simpa using h1) (zAb (World.grownBy_alloc w _ _) h2) (fun k hk=>?_);rcases h3 k hk with h | h
 ·exact .inl h
 ·right;simp at h;omega
theorem zQI (w:World):(Instr.build 24 #[(2,D J 1)]).run Tryz.prog w=.ok (.agg #[H U 0 0,D J 0,D J 1]) w:=run_build w _ _ _ (by kernel_rfl)
set_option maxHeartbeats 6400000 in
set_option maxRecDepth 100000 in
theorem zNl (w:World):Calls Tryz.prog 56 #[] w fun e w'=>∃A c,e=.returned (frV A 126 c 0 1)∧Row w' w.heap.size 3 A 126 c (AL.flatMap fgC)∧Below w.heap.size w w':=by
 have aa:Below w.heap.size w (w.alloc (.cells #[H U 0 0,D J 0,D J 0] 24)):=(Below.refl _ _).alloc (Nat.le_refl _) _;have hk0:Blk (w.alloc (.cells #[H U 0 0,D J 0,D J 0] 24)) w.heap.size 24 #[H U 0 0,D J 0,D J 0]:=Blk.new _ _ _;have bfr:=zQI;have bfl:=zLb;have bfrr:=zLc;have bg2:=zVo;go_enter Tryz.func56,Tryz.ntmps56;go_upto_region 1 with fail
 generalize w.alloc (.cells #[H U 0 0,D J 0,D J 0] 24)=Y at aa hk0 ⊢;have bF:FbW Y (Y.alloc (.cells #[H U 0 0,D J 0,D J 1] 24)) Y.heap.size 0 1 U 0 0 (AL.take 0):=⟨Row.none_ _ _ _,Blk.new _ _ _,fun q hq=>(by cases hq),(Below.refl _ _).alloc (Nat.le_refl _) _⟩;go_upto_region 2 with fail
 generalize hZ:Y.alloc (.cells #[H U 0 0,D J 0,D J 1] 24)=ZU at bF ⊢;clear hZ;obtain ⟨oB,gC⟩:∃a,Y.heap.size=a:=⟨_,rfl⟩
 have mn:Y.heap.size≤oB:=by omega
 have hwo:w.heap.size < oB:=by rw [←gC];exact hk0.lt
 rw [gC];have bF:FbW Y ZU oB 0 1 U 0 0 (AL.take 0):=by rw [←gC];exact bF
 clear gC;go_wp2_with fail
 go_loopw [2] (fun v2 wv=>∃(i:Nat) (p:Int) (X:World) (A1:Option Addr) (c1:Nat),X=wv∧i≤9∧v2=D J p∧Hid (p=(i:Int)+1)∧FbW Y X oB 0 1 A1 (14*i) c1 (AL.take (14*i))) (fun v2 _=>10-(intOf v2).toNat)
 case atStart=>exact ⟨0,1,_,U,0,rfl,by omega,rfl,qH rfl,bF⟩
 case round =>
  obtain ⟨i,p,X,A1,c1,hX,hi,rfl,HP,hW⟩:=hrel;subst hX;clear bF;by_cases hlt:i < 9
  ·have i1:p≤9:=by have:=HP.out;omega
   have i2:1≤p:=by have:=HP.out;omega
   have bF:FbW Y X oB 0 1 A1 (14*i+2*0) c1 (AL.take (14*i+2*0)):=hW;clear hW;go_wp2_with fail
   go_loopw [3] (fun v3 wv=>∃(j:Nat) (q:Int) (X:World) (A1:Option Addr) (c1 n1:Nat),X=wv∧j≤7∧v3=D J q∧Hid (q=(j:Int))∧n1=14*i+2*j∧FbW Y X oB 0 1 A1 n1 c1 (AL.take (14*i+2*j))) (fun v3 _=>7-(intOf v3).toNat)
   case atStart=>exact ⟨0,0,_,A1,c1,_,rfl,by omega,rfl,qH rfl,rfl,bF⟩
   case round =>
    obtain ⟨j,q,X,A1,c1,n1,hX,hj,rfl,HQ,lr,hW⟩:=hrel;subst hX;clear bF;by_cases hjt:j < 7
    ·have j1:q≤6:=by have:=HQ.out;omega
     have j2:0≤q:=by have:=HQ.out;omega
     have wV:=qH (show AL.take (14*i+2*j)++[⟨p,E,q⟩,⟨p,Q,q⟩]=AL.take (14*i+2*j+2) by rw [HP.out,HQ.out];exact zVn hlt hjt);have o0:X.cell? ⟨oB,0,U⟩=Z (H A1 n1 c1):=(hW.bk.cell 0).trans rfl;have aE:Y.heap.size≤X.heap.size:=hW.old.size;have td:n1+2≤1000000:=by omega
     have HN1:=qH lr;clear lr;go_upto_region 7 with (at_builtin;refine zEw ?_)
     refine qH ?_;refine zWL (base:=Y.heap.size) (A:=A1) (n:=n1) (c:=c1) (L:=AL.take (14*i+2*j)) rfl (.tmp 14) (.tmp 21) ?_ ?_ ⟨p,E,q⟩ ⟨p,Q,q⟩ ?_ X.heap.size rfl ?_ (n1+2) rfl td aE ?_
     ·rfl
     ·exact hW.own
     ·rfl
     ·rfl
     intro A2 c2 w9 cv aQ hl9';obtain ⟨dq,ct⟩:=hW.pushed mn cv aQ hl9';have p1:w9.cell? ⟨oB,0,U⟩=Z (H A1 n1 c1):=(dq.cell 0).trans rfl;have z1:=dq.frozen 0;rw [wV.out] at ct;have fm:=qH ct;clear hW cv aQ hl9' ct dq o0;go_wp2_with fail
     go_roundw
     case rel=>exact ⟨j+1,q+1,_,A2,c2,n1+2,rfl,by omega,by go_num,qH (by rw [HQ.out];omega),by have:=HN1.out;omega,fm.out⟩
     case measure=>simp [intOf];omega
    ·obtain rfl:j=7:=by omega
     obtain rfl:q=7:=HQ.out;clear HQ
     have uj:=qH (show FbW Y X oB 0 1 A1 (14*(i+1)) c1 (AL.take (14*(i+1))) by
      have h:=hW
      rw [lr] at h
      exact h)
     clear hW lr;go_wp2_with fail
     go_roundw
     case rel=>exact ⟨i+1,p+1,_,A1,c1,rfl,by omega,by go_num,qH (by rw [HP.out];omega),uj.out⟩
     case measure=>simp [intOf];omega
  ·obtain rfl:i=9:=by omega
   obtain rfl:p=10:=HP.out;clear HP;have pg:w.heap.size < Y.heap.size:=hk0.lt;have dh:=hk0.below hW.old pg;have e0:X.cell? ⟨oB,0,U⟩=Z (H A1 (14*9) c1):=(hW.bk.cell 0).trans rfl;have e1:X.cell? ⟨oB,1,U⟩=Z (D J 0):=(hW.bk.cell 1).trans rfl;have e2:X.cell? ⟨oB,2,U⟩=Z (D J 1):=(hW.bk.cell 2).trans rfl;have r0:X.cell? ⟨w.heap.size,0,U⟩=Z (H U 0 0):=(dh.cell 0).trans rfl;have r1:X.cell? ⟨w.heap.size,1,U⟩=Z (D J 0):=(dh.cell 1).trans rfl;have r2:X.cell? ⟨w.heap.size,2,U⟩=Z (D J 0):=(dh.cell 2).trans rfl;have z0:=dh.frozen 0;have z1:=dh.frozen 1;have z2:=dh.frozen 2;have pD:=qH dh;have HW:=qH hW;have jq:=aa.size;clear hlt hW dh;go_wp2_with fail
   have hS:Blk (((X.setCell ⟨w.heap.size,0,U⟩ (H A1 (14*9) c1)).setCell ⟨w.heap.size,1,U⟩ (D J 0)).setCell ⟨w.heap.size,2,U⟩ (D J 1)) w.heap.size 24 #[H A1 (14*9) c1,D J 0,D J 1]:=((pD.out.set_ 0 _).set_ 1 _).set_ 2 _;have gS:=zAg (zAg (zAg (World.grownBy.refl X (Z w.heap.size)) (p:=⟨w.heap.size,0,U⟩) (.inl rfl) (H A1 (14*9) c1)) (p:=⟨w.heap.size,1,U⟩) (.inl rfl) (D J 0)) (p:=⟨w.heap.size,2,U⟩) (.inl rfl) (D J 1);have dT:=(((zAa aa HW.out.old jq).setCell (p:=⟨w.heap.size,0,U⟩) (Nat.le_refl _) (H A1 (14*9) c1)).setCell (p:=⟨w.heap.size,1,U⟩) (Nat.le_refl _) (D J 0)).setCell (p:=⟨w.heap.size,2,U⟩) (Nat.le_refl _) (D J 1);have hT:AL.take (14*9)=AL:=List.take_of_length_le (by rw [zPL];omega);have pk:Row (((X.setCell ⟨w.heap.size,0,U⟩ (H A1 (14*9) c1)).setCell ⟨w.heap.size,1,U⟩ (D J 0)).setCell ⟨w.heap.size,2,U⟩ (D J 1)) w.heap.size 3 A1 126 c1 (AL.flatMap fgC):=by
    have h:=HW.out.own;rw [hT] at h;refine (h.kept gS ?_).mono jq
    cases hb:blk A1 with
    | none=>exact .inl rfl
    | some q=>exact .inr (by have:=(HW.out.own.lt q hb).1;simp;omega)
   (try simp only [Exit.inBlock,Exit.then])
   refine zAn rfl rfl hS Tryz.underlying24 rfl (by kernel_rfl) rfl ?_;exact ⟨A1,c1,rfl,pk,dT⟩
end Go.Proofs.YtlmdfmnbcndhoaaGreatDoor
