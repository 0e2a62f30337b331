/-
  Lemmas, part 38. Conditions: each theorem's own.
-/
import Derived.Test.YtlmdfmnbcndhoaaGreatDoorRi37
import Derived.Test.YtlmdfmnbcndhoaaGreatDoorRi03
import Derived.Test.YtlmdfmnbcndhoaaGreatDoorRi10
import Derived.Test.YtlmdfmnbcndhoaaGreatDoorRi30
import Derived.Test.YtlmdfmnbcndhoaaGreatDoorRi01
import Derived.Test.YtlmdfmnbcndhoaaGreatDoorRi04
import Derived.Deep.RegionHeld3
import Derived.Deep.DeepCutAuto
import Derived.Test.YtlmdfmnbcndhoaaGreatDoorRi02
import Derived.Test.YtlmdfmnbcndhoaaGreatDoorRi35
import Derived.Test.YtlmdfmnbcndhoaaGreatDoorRi23
namespace Go.Proofs.YtlmdfmnbcndhoaaGreatDoor
open Go.RowKit
def exO:Og:=⟨3,9,⟨5,1,false,0⟩,[⟨⟨6,1,false,0⟩,true⟩],false⟩
def zWG:List UInt8:=[112,105,99,107,32,82,50,32,111,118,101,114,32,82,53,32,110,101,97,114,32,108,111,111,112,32,49,44,32,102,114,111,109,32,76,53,32,110,101,97,114,32,108,111,111,112,32,49]
def zMq:List UInt8:=[82,50,60,82,53,110,111,60,76,53,110]
def zWH:List UInt8:=[112,105,99,107,32,82,50,32,111,118,101,114,32,82,53,32,110,101,97,114,44,32,102,114,111,109,32,76,53,32,110,101,97,114,10]
theorem zMr:zAP stdF 6 4 [exO]=0∧zDn stdF exO=zWG:=⟨by kernel_rfl,by kernel_rfl⟩
def exN:Nop:=⟨3,⟨1,true,2⟩,some ⟨⟨1,false,5⟩,0,false,0⟩,[(⟨⟨1,true,5⟩,0,false,0⟩,true)],false⟩
theorem zSG:okN exN∧zUE exN:=by
 have h1:zCp ⟨⟨1,false,5⟩,0,false,0⟩:=⟨by decide,by simp,by simp,by simp,by simp⟩;have h2:zCp ⟨⟨1,true,5⟩,0,false,0⟩:=⟨by decide,by simp,by simp,by simp,by simp⟩;refine ⟨⟨by decide,.inr (.inr (.inl ⟨rfl,⟨_,rfl,h1⟩,fun y hy=>?_,rfl⟩))⟩,rfl,fun x hx=>?_,fun y hy=>?_⟩
 ·rw [List.mem_singleton.1 hy];exact h2
 ·injection hx with hx;rw [←hx];exact ⟨rfl,rfl,rfl⟩
 ·rw [List.mem_singleton.1 hy];exact ⟨rfl,rfl,rfl⟩
theorem zUj:zDU exN=zMq:=by kernel_rfl
theorem zMs:itE stdF zMq=0∧itO stdF zMq=[oOf stdF exN]:=by
 have hs:zAH 32 zMq=[zMq]:=by kernel_rfl
 have h:=zOI zSG.1 zSG.2;rw [zUj] at h;have ha:zBy (zAH 32 zMq)=some [exN]:=by rw [hs,zBy,h,zBy]
 have hl:List.any [exN] (zAx stdF)=false:=by decide
 unfold itE itO;rw [if_neg (by decide),if_neg (by decide),ha];simp only [hl];exact ⟨rfl,rfl⟩
theorem zMt:trE stdF 6 4 zMq 2 1=0∧trS stdF 6 4 zMq 2 1=zWH:=by
 have hb:zAA stdF 6 4 zMq=0:=by kernel_rfl
 have hf:frB stdF 6 4=true:=by kernel_rfl
 have h1:ntE stdF 6 4 2 zMq=0:=by
  unfold ntE rsE;rw [if_neg (by omega),if_pos hb];exact zMs.1
 have h2:ntO stdF 6 4 2 zMq=[oOf stdF exN]:=by
  unfold ntO rsO;rw [if_neg (by omega),if_pos hb];exact zMs.2
 have h3:trE stdF 6 4 zMq 2 1=0:=by
  unfold trE;rw [if_pos ⟨hf,.inr rfl,.inl rfl⟩,if_pos h1,if_neg (by omega)]
 refine ⟨h3,?_⟩;unfold trS;rw [if_pos h3,h2]
 kernel_rfl
end Go.Proofs.YtlmdfmnbcndhoaaGreatDoor
namespace Go.Proofs.YtlmdfmnbcndhoaaGreatDoor
open Go
def ovC (o:Bool):UInt8:=if o then 111 else 117
def sgC (s:Int):UInt8:=if s=1 then 43 else if s = -1 then 45 else 63
def ltS (l:Lt):List UInt8:=if l.kind=1 then Lib.itoa l.gate++[46]++Lib.itoa l.rank else if l.kind=2 then Lib.itoa l.id++[ovC l.over]++[sgC l.sign] else [63]
def zKn (L:List Lt):List UInt8:=L.flatMap (fun l=>32 :: ltS l)
def zCv (K:Int) (L:List Lt):List UInt8:=Lib.itoa K++[58]++zKn L
theorem zJe (L:List Lt) (l:Lt):zKn (L++[l])=zKn L++([32]++ltS l):=by unfold zKn;rw [List.flatMap_append];simp
theorem zPL {x:Int} (h:I64 x):-9223372036854775808≤x∧x≤9223372036854775807:=h
theorem zPM {l:Lt} (h:LtOk l):(ltS l).length≤44:=by
 have hg:=zPL h.gate;have hr:=zPL h.rank;have hi:=zPL h.id;have h1:=Lib.itoa_length_le _ hg.1 hg.2;have h2:=Lib.itoa_length_le _ hr.1 hr.2;have h3:=Lib.itoa_length_le _ hi.1 hi.2;unfold ltS;split
 ·simp;omega
 ·split
  ·simp;omega
  ·simp
theorem zFV:∀{L:List Lt},(∀x∈L,LtOk x)→(zKn L).length≤45*L.length
 | [],_=>by simp [zKn]
 | l :: L,h=>by
  have h1:=zPM (h l (List.mem_cons_self ..));have h2:=zFV (fun x hx=>h x (List.mem_cons_of_mem _ hx));unfold zKn at h2 ⊢;rw [List.flatMap_cons,List.length_append,List.length_cons,List.length_cons];omega
theorem zNx {K:Int} {L:List Lt} (hK:I64 K) (h:∀x∈L,LtOk x):(zCv K L).length≤45*L.length+22:=by
 have h1:=Lib.itoa_length_le K hK.1 hK.2;have h2:=zFV h;unfold zCv;simp only [List.length_append,List.length_cons,List.length_nil];omega
end Go.Proofs.YtlmdfmnbcndhoaaGreatDoor
namespace Go.Proofs.YtlmdfmnbcndhoaaGreatDoor
open Go.RowKit
theorem zJf {x:Int} (hx:I64 x):(Lib.itoa x).length≤21:=Lib.itoa_length_le x hx.1 hx.2
end Go.Proofs.YtlmdfmnbcndhoaaGreatDoor
namespace Go.Proofs.YtlmdfmnbcndhoaaGreatDoor
open Go.RowKit
theorem zWI {L:List Lt} {i:Nat} (h:i < L.length):L[i]? = some (la L i):=by unfold la;rw [List.getElem?_eq_getElem h];rfl
theorem zUk {L:List Lt} {i:Nat} (h:i < L.length):L.take (i+1)=L.take i++[la L i]:=by rw [List.take_add_one,zWI h];rfl
theorem zLz {K:Int} {L:List Lt} {i:Nat} (h:i < L.length):zCv K (L.take (i+1))=zCv K (L.take i)++32 :: ltS (la L i):=by
 unfold zCv;rw [zUk h,zJe];simp
theorem zUl {L:List Lt} (i:Nat) (h:∀x∈L,LtOk x):∀x∈L.take i,LtOk x:=fun x hx=>h x (List.mem_of_mem_take hx)
end Go.Proofs.YtlmdfmnbcndhoaaGreatDoor
namespace Go.Proofs.YtlmdfmnbcndhoaaGreatDoor
open Go.RowKit
theorem zMu (sign:Int):((sign==1)=true∧sgC sign=43)∨((sign==1)=false∧(sign==-1)=true∧sgC sign=45)∨((sign==1)=false∧(sign==-1)=false∧sgC sign=63):=by
 unfold sgC;by_cases h1:sign=1
 ·exact .inl ⟨by simpa using h1,by rw [if_pos h1]⟩
 ·by_cases h2:sign = -1
  ·exact .inr (.inl ⟨by simpa using h1,by simpa using h2,by rw [if_neg h1,if_pos h2]⟩)
  ·exact .inr (.inr ⟨by simpa using h1,by simpa using h2,by rw [if_neg h1,if_neg h2]⟩)
set_option maxRecDepth 100000 in
set_option maxHeartbeats 6400000 in
theorem zLA (K:Int) (A:Option Addr) (n c:Nat) (L:List Lt) (w:World) (hA:Lets w A n L) (hn:n≤1000) (hK:I64 K) :
  Calls Tryz.prog 50 #[.agg #[.int .i64 K,.slice A n c]] w fun e w'=>e=.returned (.string (bA (zCv K L)))∧Below w.heap.size w w':=by
 have hLn:=qH hA.len;have hbx:=Boxed.refl w K A n c;have HK:=qH hK;have hok:=hA.fits;have HOK:=qH hok;have zK:=zJf hK;have s0:=zAw (Lib.itoa K) [58] (by omega) (by simp);rw [show bA [58]=⟨#[58]⟩ from rfl] at s0;have hst:Hid (bA (Lib.itoa K++[58])=bA (zCv K (L.take 0))):=qH (by unfold zCv zKn;simp);have x0:=hbx.c0;clear hK hok;go_enter Tryz.func50,Tryz.ntmps50;go_wp2_with fail
 refine (zBs K HK.out _).mono ?_;rintro e w1 ⟨rfl,hb1⟩;have hb2:=hbx.more hb1;clear hbx hb1 x0;go_wp2_with fail
 go_loopw [3,4,5,6] (fun v3 v4 _ _ wr=>∃(i:Nat) (S:ByteArray),i≤n∧v4=.int .i64 i∧v3=.string S∧Boxed w wr K A n c∧Hid (S=bA (zCv K (L.take i)))) (fun _ v4 _ _ _=>n-(intOf v4).toNat)
 case atStart=>exact ⟨0,_,Nat.zero_le _,rfl,rfl,hb2,hst⟩
 case round =>
  obtain ⟨i,S,hi,rfl,rfl,hbr,HS⟩:=hrel;clear hst hb2;have x1:=hbr.c1;by_cases hlt:i < n
  ·obtain ⟨gg,o,rfl,hgg,hx,hok⟩:=(hA.below hbr.below).at_ hlt;obtain ⟨y0,y1,y2,y3,y4,y5⟩:=hx;have hil:i < L.length:=by rw [hLn.out];exact hlt
   have zw:=zPM hok;have zp:=zNx HK.out (zUl i HOK.out);have zt:(L.take i).length≤1000:=by rw [List.length_take];omega
   have i0:(0:Int)≤(i:Int):=by omega
   have i1:(i:Int) < (n:Int):=by omega
   have s1:=zAw (zCv K (L.take i)) [32] (by omega) (by simp);have s2:=zAw (zCv K (L.take i)++[32]) (ltS (la L i)) (by simp;omega) (by omega);rw [show bA [32]=⟨#[32]⟩ from rfl] at s1;rw [←HS.out] at s1;obtain ⟨D,hD⟩:∃D,D=bA (zCv K (L.take i)++[32]):=⟨_,rfl⟩
   obtain ⟨E,hE⟩:∃E,E=bA ((zCv K (L.take i)++[32])++ltS (la L i)):=⟨_,rfl⟩
   obtain ⟨W,hW⟩:∃W,W=bA (ltS (la L i)):=⟨_,rfl⟩
   rw [←hE,←hD,←hW] at s2;rw [←hD] at s1;have HS1:=qH (show E=bA (zCv K (L.take (i+1))) by rw [hE,zLz hil];simp);have HW:=qH hW;have HLN:=qH (show I64 (la L i).gate∧I64 (la L i).rank∧I64 (la L i).id from ⟨hok.gate,hok.rank,hok.id⟩);obtain ⟨kind,hk⟩:∃k,(la L i).kind=k:=⟨_,rfl⟩
   obtain ⟨gate,hg⟩:∃k,(la L i).gate=k:=⟨_,rfl⟩
   obtain ⟨rank,hr⟩:∃k,(la L i).rank=k:=⟨_,rfl⟩
   obtain ⟨id,hid⟩:∃k,(la L i).id=k:=⟨_,rfl⟩
   obtain ⟨sign,hs⟩:∃k,(la L i).sign=k:=⟨_,rfl⟩
   obtain ⟨over,ho⟩:∃k,(la L i).over=k:=⟨_,rfl⟩
   have hl:la L i=⟨kind,gate,rank,id,sign,over⟩:=by rw [←hk,←hg,←hr,←hid,←hs,←ho]
   rw [hk] at y0;rw [hg] at y1;rw [hr] at y2;rw [hid] at y3;rw [hs] at y4;rw [ho] at y5;rw [hg,hr,hid] at HLN;rw [hl] at HW;have zG:=zJf HLN.out.1;have zR:=zJf HLN.out.2.1;have zI:=zJf HLN.out.2.2;clear HS hD hE hW zw zp zt hok hk hg hr hid hs ho hl;go_upto_region 6 with fail
   obtain ⟨X,hX⟩:∃X,X=wr.alloc (.cells #[.int .i64 kind,.int .i64 gate,.int .i64 rank,.int .i64 id,.int .i64 sign,.bool over] 76):=⟨_,rfl⟩
   rw [←hX];have hk0:Blk X wr.heap.size 76 #[.int .i64 kind,.int .i64 gate,.int .i64 rank,.int .i64 id,.int .i64 sign,.bool over]:=by rw [hX];exact Blk.new _ _ _
   have hbX:Boxed w X K (some ⟨gg,o,none⟩) n c:=by rw [hX];exact hbr.alloc _
   have hsz0:=hk0.lt;clear hX y0 y1 y2 y3 y4 y5 x1 hbr;obtain ⟨c0,c1,c2,c3⟩:=cQ4 hk0;by_cases k1:kind=1
   ·have q1:(kind==1)=true:=by simpa using k1
    have q2:(kind==2)=false:=by simp;omega
    have hf:=show W=bA (Lib.itoa gate++46 :: Lib.itoa rank) by rw [HW.out];unfold ltS;rw [if_pos k1];simp
    have t1:=zAw (Lib.itoa gate) [46] (by omega) (by simp);have t2:=zAw (Lib.itoa gate++[46]) (Lib.itoa rank) (by simp;omega) (by omega);rw [show bA [46]=⟨#[46]⟩ from rfl] at t1;rw [hf] at s2;clear k1 zI zG zR HW hf;have KP:=qH (show ∀wx,Below X.heap.size X wx→(Below X.heap.size X wx∧wx.cell? ⟨wr.heap.size,1,none⟩=some (.int .i64 gate)∧wx.cell? ⟨wr.heap.size,2,none⟩=some (.int .i64 rank)) from fun wx h=>⟨h,(h.cell (p:=⟨wr.heap.size,1,none⟩) hsz0).trans c1,(h.cell (p:=⟨wr.heap.size,2,none⟩) hsz0).trans c2⟩);go_wp2_with fail
    first
     | go_region_held3 (fun wx=>Below X.heap.size X wx∧wx.cell? ⟨wr.heap.size,1,none⟩=some (.int .i64 gate)∧wx.cell? ⟨wr.heap.size,2,none⟩=some (.int .i64 rank)) (first | assumption | exact KP.out _ (Below.refl _ _).drew | exact KP.out _ (zAa (And.left (by assumption)) (by assumption) (Below.size (And.left (by assumption)))))
       (first
        | (go_at_call 78;refine (zBs gate HLN.out.1 _).mono ?_;rintro e wx ⟨rfl,hb5⟩)
        | (go_at_call 78;refine (zBs rank HLN.out.2.1 _).mono ?_;rintro e wx ⟨rfl,hb5⟩))
     | fail
    all_goals
     have hbf:=And.left (show Below X.heap.size X _∧_ by assumption);have e0:World.cell? _ ⟨wr.heap.size,0,none⟩=some (.int .i64 kind):=((hk0.below hbf hsz0).cell 0).trans rfl;clear hk0;have hbr2:=hbX.more hbf;clear hbX;go_wp2_with fail
     go_roundw
     case rel=>exact ⟨i+1,E,by omega,by go_num,rfl,hbr2,HS1⟩
     case measure=>simp [intOf];omega
   ·have q1:(kind==1)=false:=by simpa using k1
    by_cases k2:kind=2
    ·have q2:(kind==2)=true:=by simpa using k2
     have t1:=zAw (Lib.itoa id) [117] (by omega) (by simp);have t2:=zAw (Lib.itoa id) [111] (by omega) (by simp);have t3:=zAw (Lib.itoa id++[117]) [43] (by simp;omega) (by simp);have t4:=zAw (Lib.itoa id++[117]) [45] (by simp;omega) (by simp);have t5:=zAw (Lib.itoa id++[117]) [63] (by simp;omega) (by simp);have t6:=zAw (Lib.itoa id++[111]) [43] (by simp;omega) (by simp);have t7:=zAw (Lib.itoa id++[111]) [45] (by simp;omega) (by simp);have t8:=zAw (Lib.itoa id++[111]) [63] (by simp;omega) (by simp);rw [show bA [117]=⟨#[117]⟩ from rfl] at t1;rw [show bA [111]=⟨#[111]⟩ from rfl] at t2;rw [show bA [43]=⟨#[43]⟩ from rfl] at t3 t6;rw [show bA [45]=⟨#[45]⟩ from rfl] at t4 t7;rw [show bA [63]=⟨#[63]⟩ from rfl] at t5 t8;clear zG zR zI c1 c2
     cases over with
     | false =>
      rcases zMu sign with ⟨n1,hS⟩ | ⟨n1,n2,hS⟩ | ⟨n1,n2,hS⟩
      all_goals
       have hf:=show W=bA (Lib.itoa id++[ovC false,sgC sign]) by rw [HW.out];unfold ltS;rw [if_neg k1,if_pos k2];simp
       rw [hS,show ovC false=117 from rfl] at hf;rw [hf] at s2;clear hS hf HW;go_wp2_with fail
       refine (zBs id HLN.out.2.2 _).mono ?_;rintro e w2 ⟨rfl,hb3⟩;have hk2:=hk0.below hb3 hsz0;obtain ⟨-,-,-,-,d4,d5⟩:=cQ6 hk2;clear hk2 hk0;have hbr2:=hbX.more hb3;clear hbX;go_wp2_with fail
       go_roundw
       case rel=>exact ⟨i+1,E,by omega,by go_num,rfl,hbr2,HS1⟩
       case measure=>simp [intOf];omega
     | true =>
      rcases zMu sign with ⟨n1,hS⟩ | ⟨n1,n2,hS⟩ | ⟨n1,n2,hS⟩
      all_goals
       have hf:=show W=bA (Lib.itoa id++[ovC true,sgC sign]) by rw [HW.out];unfold ltS;rw [if_neg k1,if_pos k2];simp
       rw [hS,show ovC true=111 from rfl] at hf;rw [hf] at s2;clear hS hf HW;go_wp2_with fail
       refine (zBs id HLN.out.2.2 _).mono ?_;rintro e w2 ⟨rfl,hb3⟩;have hk2:=hk0.below hb3 hsz0;obtain ⟨-,-,-,d3,-,d5⟩:=cQ6 hk2;have hsz2:=hk2.lt;go_wp2_with fail
       refine (zBs id HLN.out.2.2 _).mono ?_;rintro e w3 ⟨rfl,hb4⟩;have e4:w3.cell? ⟨wr.heap.size,4,none⟩=some (.int .i64 sign):=((hk2.below hb4 hsz2).cell 4).trans rfl;have hb5:=hb3.trans (hb4.mono hb3.size);clear d3 d5 hk2 hk0;have hbr2:=hbX.more hb5;clear hbX;go_wp2_with fail
       go_roundw
       case rel=>exact ⟨i+1,E,by omega,by go_num,rfl,hbr2,HS1⟩
       case measure=>simp [intOf];omega
    ·have q2:(kind==2)=false:=by simpa using k2
     have hf:=show W=bA [63] by rw [HW.out];unfold ltS;rw [if_neg k1,if_neg k2]
     rw [hf,show bA [63]=⟨#[63]⟩ from rfl] at s2;have hb3:=Below.refl X.heap.size X;clear k1 k2 zG zR zI HW hf;have hbr2:=hbX.more hb3;clear hbX;go_wp2_with fail
     go_roundw
     case rel=>exact ⟨i+1,E,by omega,by go_num,rfl,hbr2,HS1⟩
     case measure=>simp [intOf];omega
  ·have hin:i=n:=by omega
   have hS:=HS.out;rw [hin,List.take_of_length_le (by rw [hLn.out];exact Nat.le_refl _)] at hS;have HS1:=qH hS;have i1:¬(i:Int) < (n:Int):=by omega
   clear hS hin HS;go_wp2_with fail
   go_ret;exact ⟨by rw [←HS1.out];rfl,hbr.below⟩
end Go.Proofs.YtlmdfmnbcndhoaaGreatDoor
namespace Go.Proofs.YtlmdfmnbcndhoaaGreatDoor
open Go.RowKit
def exP:List UInt8:=[49,48,58,32,49,46,49,32,48,46,49,32,49,117,43,32,57,46,49,32,49,48,46,49,32,49,111,43]
theorem zRK:zCv 10 (exL 1)=exP:=by kernel_rfl
end Go.Proofs.YtlmdfmnbcndhoaaGreatDoor
namespace Go.Proofs.YtlmdfmnbcndhoaaGreatDoor
open Go.RowKit
def fgC (f:Fg):List Value:=[.int .i64 f.p,.bool f.r,.int .i64 f.d]
theorem zMv:(Tryz.prog.info? 90).map (fun i=>(i.zero,i.size,i.bytes))=some (some (.agg #[.int .i64 0,.bool false,.int .i64 0]),3,24):=by kernel_rfl
theorem zWJ (p d:Int) (r:Bool) (w:World):(Instr.buildSlice 22 1 #[(0,.agg #[.int .i64 p,.bool r,.int .i64 d])]).run Tryz.prog w=.ok (.slice (some ⟨w.heap.size,0,none⟩) 1 1) (w.alloc (.cells #[.int .i64 p,.bool r,.int .i64 d] 90)):=by
 obtain ⟨i0,hi,hz0,hz1,hz2⟩:=info_parts zMv;refine run_buildSlice w _ _ 1 _ _ i0 _ Tryz.underlying22 hi hz0 (by rw [hz1];omega) (by rw [hz1];omega) ?_;rw [hz1]
 kernel_rfl
theorem zVD {w:World} {ops:Array Oper} {rest:List Oper} {o:Oper} {a:Act} {Q':Exit→Act→World→Prop} (hgd:o.guard=none) (s x:Operand)
  (ho:o.op=.call { callee:=.builtin .append,args:=#[s,x],argTypes:=#[22,22] })
  {base:Nat} {A:Option Addr} {n c:Nat} {L:List Fg} (hst:Row w base 3 A n c (L.flatMap fgC)) (f:Fg) (hs:a.eval s=.slice A n c)
  (H:Nat) (hH:w.heap.size=H) (hx:a.eval x=.slice (some ⟨H,0,none⟩) 1 1) (N:Nat) (hN:n+1=N) (hn:N≤1000000) (hbase:base≤w.heap.size)
  (h:∀A' c' w',Row w' base 3 A' N c' ((L++[f]).flatMap fgC)→w.grownBy w' (blk A)→(∀k,blk A'=some k→blk A=some k∨w.heap.size≤k)→wpList Tryz.prog ops Q' rest (a.put o.dst (.slice A' N c')) w') :
  wpList Tryz.prog ops Q' (o :: rest) a (w.alloc (.cells #[.int .i64 f.p,.bool f.r,.int .i64 f.d] 90)):=by
 subst hH;obtain ⟨i0,hi,hz0,hz1,hz2⟩:=info_parts zMv
 refine zQk hgd s x 22 ho 90 i0 _ 3 24 Tryz.underlying22 hi hz0 hz1 hz2 rfl (by decide) (hst.alloc _) (Src.new (m:=1) (cs:=fgC f) rfl)
  (by intro u hu;simp [fgC] at hu;rcases hu with rfl | rfl | rfl<;>rfl) hs hx N hN (by unfold maxLen;omega) (by omega) (by simp;omega) ?_
 intro A' c' w' h1 h2 h3 _;refine h A' c' w' (by rw [List.flatMap_append];simpa using h1) (zAb (World.grownBy_alloc w _ _) h2) (fun k hk=>?_);rcases h3 k hk with h | h
 ·exact .inl h
 ·right;simp at h;omega
end Go.Proofs.YtlmdfmnbcndhoaaGreatDoor
namespace Go.Proofs.YtlmdfmnbcndhoaaGreatDoor
open Go.RowKit
theorem zVE {i:Nat} (h:i < 5):(stdF.take i)++[⟨1,false,(i:Int)+1⟩]=stdF.take (i+1):=by
 rcases i with _ | _ | _ | _ | _ | i<;>first | rfl | omega
theorem zRL {i:Nat} (h:i < 5):(stdF.take (5+i))++[⟨1,true,5-(i:Int)⟩]=stdF.take (5+i+1):=by
 rcases i with _ | _ | _ | _ | _ | i<;>first | rfl | omega
end Go.Proofs.YtlmdfmnbcndhoaaGreatDoor
namespace Go.Proofs.YtlmdfmnbcndhoaaGreatDoor
open Go.RowKit
structure FbW (Y w:World) (oB:Nat) (re lo:Int) (A:Option Addr) (n c:Nat) (L:List Fg):Prop where
 own:Row w Y.heap.size 3 A n c (L.flatMap fgC)
 bk:Blk w oB 24 #[.slice A n c,.int .i64 re,.int .i64 lo]
 far:∀q,blk A=some q→q≠oB
 old:Below Y.heap.size Y w
theorem FbW.pushed {Y w w':World} {oB:Nat} {re lo:Int} {A A':Option Addr} {n c N c':Nat} {L L':List Fg} (h:FbW Y w oB re lo A n c L) (hY:Y.heap.size≤oB) (hown:Row w' Y.heap.size 3 A' N c' (L'.flatMap fgC)) (hg:w.grownBy w' (blk A)) (hl:∀k,blk A'=some k→blk A=some k∨w.heap.size≤k) :
  Blk w' oB 24 #[.slice A n c,.int .i64 re,.int .i64 lo]∧FbW Y (w'.setCell ⟨oB,0,none⟩ (.slice A' N c')) oB re lo A' N c' L':=by
 have hb:Blk w' oB 24 #[.slice A n c,.int .i64 re,.int .i64 lo]:=h.bk.grown hg (fun e=>h.far oB e.symm rfl);have hf:∀q,blk A'=some q→q≠oB:=fun q hq=>by
  rcases hl q hq with e | e
  ·exact h.far q e
  ·have:=h.bk.lt;omega
 have hold:Below Y.heap.size Y w':=h.old.trans ((Below.refl _ _).grown hg h.old.size (fun k hk=>(h.own.lt k hk).1));exact ⟨hb,⟨hown.farSet 0 _ hf,hb.set_ 0 _,hf,hold.setCell (p:=⟨oB,0,none⟩) hY _⟩⟩
theorem zWc (w:World):(Instr.build 24 #[(1,.int .i64 6),(2,.int .i64 4)]).run Tryz.prog w=.ok (.agg #[.slice none 0 0,.int .i64 6,.int .i64 4]) w:=run_build w _ _ _ (by kernel_rfl)
theorem zKo (p d:Int) (w:World):(Instr.build 90 #[(0,.int .i64 p),(2,.int .i64 d)]).run Tryz.prog w=.ok (.agg #[.int .i64 p,.bool false,.int .i64 d]) w:=run_build w _ _ _ (by kernel_rfl)
theorem zKp (p d:Int) (w:World):(Instr.build 90 #[(0,.int .i64 p),(1,.bool true),(2,.int .i64 d)]).run Tryz.prog w=.ok (.agg #[.int .i64 p,.bool true,.int .i64 d]) w:=run_build w _ _ _ (by kernel_rfl)
set_option maxHeartbeats 6400000 in
set_option maxRecDepth 100000 in
theorem zJg (w:World):Calls Tryz.prog 49 #[.int .i64 1] w fun e w'=>∃A c,e=.returned (frV A 10 c 6 4)∧Row w' w.heap.size 3 A 10 c (stdF.flatMap fgC)∧Below w.heap.size w w':=by
 have hb0:Below w.heap.size w (w.alloc (.cells #[.slice none 0 0,.int .i64 0,.int .i64 0] 24)):=(Below.refl _ _).alloc (Nat.le_refl _) _;have hk0:Blk (w.alloc (.cells #[.slice none 0 0,.int .i64 0,.int .i64 0] 24)) w.heap.size 24 #[.slice none 0 0,.int .i64 0,.int .i64 0]:=Blk.new _ _ _;go_enter Tryz.func49,Tryz.ntmps49;go_upto_region 1 with fail
 generalize w.alloc (.cells #[.slice none 0 0,.int .i64 0,.int .i64 0] 24)=Y at hb0 hk0 ⊢;have hW0:FbW Y (Y.alloc (.cells #[.slice none 0 0,.int .i64 6,.int .i64 4] 24)) Y.heap.size 6 4 none 0 0 (stdF.take 0):=⟨Row.none_ _ _ _,Blk.new _ _ _,fun q hq=>(by cases hq),(Below.refl _ _).alloc (Nat.le_refl _) _⟩;go_upto_region 2 with fail
 generalize hZ:Y.alloc (.cells #[.slice none 0 0,.int .i64 6,.int .i64 4] 24)=Z at hW0 ⊢;clear hZ;obtain ⟨oB,hoB⟩:∃a,Y.heap.size=a:=⟨_,rfl⟩
 have hYo:Y.heap.size≤oB:=by omega
 rw [hoB];have hW0:FbW Y Z oB 6 4 none 0 0 (stdF.take 0):=by rw [←hoB];exact hW0
 clear hoB;go_wp2_with fail
 go_loopw [4] (fun v4 wv=>∃(i:Nat) (p:Int) (X:World) (A1:Option Addr) (c1:Nat),X=wv∧i≤1∧v4=.int .i64 p∧Hid (p=(i:Int)+1)∧FbW Y X oB 6 4 A1 (10*i) c1 (stdF.take (10*i))) (fun v4 _=>2-(intOf v4).toNat)
 case atStart=>exact ⟨0,1,_,none,0,rfl,by omega,rfl,qH rfl,hW0⟩
 case round =>
  obtain ⟨i,p,X,A1,c1,hX,hi,rfl,HP,hW⟩:=hrel;subst hX;clear hW0;by_cases hlt:i < 1
  ·obtain rfl:i=0:=by omega
   obtain rfl:p=1:=HP.out;clear HP;have hW0:FbW Y X oB 6 4 A1 0 c1 (stdF.take 0):=hW;clear hW;go_wp2_with fail
   go_loopw [5] (fun v5 wv=>∃(j:Nat) (q:Int) (X:World) (A1:Option Addr) (c1:Nat),X=wv∧j≤5∧v5=.int .i64 q∧Hid (q=(j:Int)+1)∧FbW Y X oB 6 4 A1 j c1 (stdF.take j)) (fun v5 _=>6-(intOf v5).toNat)
   case atStart=>exact ⟨0,1,_,A1,c1,rfl,by omega,rfl,qH rfl,hW0⟩
   case round =>
    obtain ⟨j,q,X,A1,c1,hX,hj,rfl,HQ,hW⟩:=hrel;subst hX;clear hW0;by_cases hjt:j < 5
    ·have j1:q≤5:=by have:=HQ.out;omega
     have j2:0≤q:=by have:=HQ.out;omega
     have hSU:=qH (show stdF.take j++[⟨1,false,q⟩]=stdF.take (j+1) by rw [HQ.out];exact zVE hjt);have o0:X.cell? ⟨oB,0,none⟩=some (.slice A1 j c1):=(hW.bk.cell 0).trans rfl;have hbX:Y.heap.size≤X.heap.size:=hW.old.size;have hj9:j+1≤1000000:=by omega
     go_upto_region 9 with (at_builtin;refine zEP ?_)
     refine qH ?_;refine zVD (base:=Y.heap.size) (A:=A1) (n:=j) (c:=c1) (L:=stdF.take j) rfl (.tmp 18) (.tmp 22) ?_ ?_ ⟨1,false,q⟩ ?_ X.heap.size rfl ?_ (j+1) rfl hj9 hbX ?_
     ·rfl
     ·exact hW.own
     ·rfl
     ·rfl
     intro A2 c2 w9 hO9 hg9 hl9';obtain ⟨kb9,hW9⟩:=hW.pushed hYo hO9 hg9 hl9';have p1:w9.cell? ⟨oB,0,none⟩=some (.slice A1 j c1):=(kb9.cell 0).trans rfl;have z1:=kb9.frozen 0;rw [hSU.out] at hW9;have HW9:=qH hW9;clear hW hO9 hg9 hl9' hW9 kb9 o0;go_wp2_with fail
     go_roundw
     case rel=>exact ⟨j+1,q+1,_,A2,c2,rfl,by omega,by go_num,qH (by rw [HQ.out];omega),HW9.out⟩
     case measure=>simp [intOf];omega
    ·obtain rfl:j=5:=by omega
     obtain rfl:q=6:=HQ.out;clear HQ;have hW1:FbW Y X oB 6 4 A1 (5+0) c1 (stdF.take (5+0)):=hW;clear hW;go_wp2_with fail
     go_loopw [6] (fun v6 wv=>∃(j:Nat) (X:World) (A1:Option Addr) (c1:Nat),X=wv∧j≤5∧v6=.int .i64 (5-(j:Int))∧FbW Y X oB 6 4 A1 (5+j) c1 (stdF.take (5+j))) (fun v6 _=>(intOf v6).toNat)
     case atStart=>exact ⟨0,_,A1,c1,rfl,by omega,by rfl,hW1⟩
     case round =>
      obtain ⟨j,X,A1,c1,hX,hj,rfl,hW⟩:=hrel;subst hX;clear hW1;by_cases hjt:j < 5
      ·have j1:(1:Int)≤5-(j:Int):=by omega
       have hSU:=qH (zRL hjt);have o0:X.cell? ⟨oB,0,none⟩=some (.slice A1 (5+j) c1):=(hW.bk.cell 0).trans rfl;have hbX:Y.heap.size≤X.heap.size:=hW.old.size;have hj9:5+j+1≤1000000:=by omega
       go_upto_region 13 with (at_builtin;refine zEP ?_)
       refine qH ?_;refine zVD (base:=Y.heap.size) (A:=A1) (n:=5+j) (c:=c1) (L:=stdF.take (5+j)) rfl (.tmp 30) (.tmp 34) ?_ ?_ ⟨1,true,5-(j:Int)⟩ ?_ X.heap.size rfl ?_ (5+j+1) rfl hj9 hbX ?_
       ·rfl
       ·exact hW.own
       ·rfl
       ·rfl
       intro A2 c2 w9 hO9 hg9 hl9';obtain ⟨kb9,hW9⟩:=hW.pushed hYo hO9 hg9 hl9';have p1:w9.cell? ⟨oB,0,none⟩=some (.slice A1 (5+j) c1):=(kb9.cell 0).trans rfl;have z1:=kb9.frozen 0;rw [hSU.out] at hW9;have HW9:=qH hW9;clear hW hO9 hg9 hl9' hW9 kb9 o0;go_wp2_with fail
       go_roundw
       case rel=>exact ⟨j+1,_,A2,c2,rfl,by omega,by go_num,HW9.out⟩
       case measure=>simp [intOf];omega
      ·obtain rfl:j=5:=by omega
       have HW2:=qH (show FbW Y X oB 6 4 A1 (10*(0+1)) c1 (stdF.take (10*(0+1))) from hW);clear hW;go_wp2_with fail
       go_roundw
       case rel=>exact ⟨0+1,2,_,A1,c1,rfl,by omega,by go_num,qH rfl,HW2.out⟩
       case measure=>simp [intOf]
  ·obtain rfl:i=1:=by omega
   obtain rfl:p=2:=HP.out;clear HP;have hRl:w.heap.size < Y.heap.size:=hk0.lt;have hR3:=hk0.below hW.old hRl;have e0:X.cell? ⟨oB,0,none⟩=some (.slice A1 (10*1) c1):=(hW.bk.cell 0).trans rfl;have e1:X.cell? ⟨oB,1,none⟩=some (.int .i64 6):=(hW.bk.cell 1).trans rfl;have e2:X.cell? ⟨oB,2,none⟩=some (.int .i64 4):=(hW.bk.cell 2).trans rfl;obtain ⟨r0,r1,r2⟩:=cQ3 hR3;have z0:=hR3.frozen 0;have z1:=hR3.frozen 1;have z2:=hR3.frozen 2;have HR3:=qH hR3;have HW:=qH hW;have hwY:=hb0.size;clear hlt hW hR3;go_wp2_with fail
   have hS:Blk (((X.setCell ⟨w.heap.size,0,none⟩ (.slice A1 (10*1) c1)).setCell ⟨w.heap.size,1,none⟩ (.int .i64 6)).setCell ⟨w.heap.size,2,none⟩ (.int .i64 4)) w.heap.size 24 #[.slice A1 (10*1) c1,.int .i64 6,.int .i64 4]:=((HR3.out.set_ 0 _).set_ 1 _).set_ 2 _;have gS:=zAg (zAg (zAg (World.grownBy.refl X (some w.heap.size)) (p:=⟨w.heap.size,0,none⟩) (.inl rfl) (.slice A1 (10*1) c1)) (p:=⟨w.heap.size,1,none⟩) (.inl rfl) (.int .i64 6)) (p:=⟨w.heap.size,2,none⟩) (.inl rfl) (.int .i64 4);have hbS:=(((zAa hb0 HW.out.old hwY).setCell (p:=⟨w.heap.size,0,none⟩) (Nat.le_refl _) (.slice A1 (10*1) c1)).setCell (p:=⟨w.heap.size,1,none⟩) (Nat.le_refl _) (.int .i64 6)).setCell (p:=⟨w.heap.size,2,none⟩) (Nat.le_refl _) (.int .i64 4);have hLk:Row (((X.setCell ⟨w.heap.size,0,none⟩ (.slice A1 (10*1) c1)).setCell ⟨w.heap.size,1,none⟩ (.int .i64 6)).setCell ⟨w.heap.size,2,none⟩ (.int .i64 4)) w.heap.size 3 A1 10 c1 (stdF.flatMap fgC):=by
    refine (HW.out.own.kept gS ?_).mono hwY
    cases hb:blk A1 with
    | none=>exact .inl rfl
    | some q=>exact .inr (by have:=(HW.out.own.lt q hb).1;simp;omega)
   (try simp only [Exit.inBlock,Exit.then])
   refine zAi rfl rfl hS Tryz.underlying24 rfl (by kernel_rfl) rfl ?_;exact ⟨A1,c1,rfl,hLk,hbS⟩
end Go.Proofs.YtlmdfmnbcndhoaaGreatDoor
namespace Go.Proofs.YtlmdfmnbcndhoaaGreatDoor
open Go.RowKit
theorem zUm {p d:Nat} (hp:p < 9) (hd:d < 7):AL.take (14*p+2*d)++[⟨(p:Int)+1,false,(d:Int)⟩,⟨(p:Int)+1,true,(d:Int)⟩]=AL.take (14*p+2*d+2):=by
 have h:((List.range 9).all fun p=>(List.range 7).all fun d=>decide (AL.take (14*p+2*d)++[⟨(p:Int)+1,false,(d:Int)⟩,⟨(p:Int)+1,true,(d:Int)⟩]=AL.take (14*p+2*d+2)))=true:=by decide +kernel
 have h1:=List.all_eq_true.1 h p (List.mem_range.2 hp);have h2:=List.all_eq_true.1 h1 d (List.mem_range.2 hd);exact of_decide_eq_true h2
theorem zUn (p d p' d':Int) (r r':Bool) (w:World):(Instr.buildSlice 22 2 #[(0,.agg #[.int .i64 p,.bool r,.int .i64 d]),(1,.agg #[.int .i64 p',.bool r',.int .i64 d'])]).run Tryz.prog w =
  .ok (.slice (some ⟨w.heap.size,0,none⟩) 2 2) (w.alloc (.cells #[.int .i64 p,.bool r,.int .i64 d,.int .i64 p',.bool r',.int .i64 d'] 90)):=by
 obtain ⟨i0,hi,hz0,hz1,hz2⟩:=info_parts zMv;refine run_buildSlice w _ _ 2 _ _ i0 _ Tryz.underlying22 hi hz0 (by rw [hz1];omega) (by rw [hz1];omega) ?_;rw [hz1]
 kernel_rfl
theorem zVF {w:World} {ops:Array Oper} {rest:List Oper} {o:Oper} {a:Act} {Q':Exit→Act→World→Prop} (hgd:o.guard=none) (s x:Operand)
  (ho:o.op=.call { callee:=.builtin .append,args:=#[s,x],argTypes:=#[22,22] })
  {base:Nat} {A:Option Addr} {n c:Nat} {L:List Fg} (hst:Row w base 3 A n c (L.flatMap fgC)) (f g:Fg) (hs:a.eval s=.slice A n c)
  (H:Nat) (hH:w.heap.size=H) (hx:a.eval x=.slice (some ⟨H,0,none⟩) 2 2) (N:Nat) (hN:n+2=N) (hn:N≤1000000) (hbase:base≤w.heap.size)
  (h:∀A' c' w',Row w' base 3 A' N c' ((L++[f,g]).flatMap fgC)→w.grownBy w' (blk A)→(∀k,blk A'=some k→blk A=some k∨w.heap.size≤k)→wpList Tryz.prog ops Q' rest (a.put o.dst (.slice A' N c')) w') :
  wpList Tryz.prog ops Q' (o :: rest) a (w.alloc (.cells #[.int .i64 f.p,.bool f.r,.int .i64 f.d,.int .i64 g.p,.bool g.r,.int .i64 g.d] 90)):=by
 subst hH;obtain ⟨i0,hi,hz0,hz1,hz2⟩:=info_parts zMv
 refine zQk hgd s x 22 ho 90 i0 _ 3 24 Tryz.underlying22 hi hz0 hz1 hz2 rfl (by decide) (hst.alloc _) (Src.new (m:=2) (cs:=fgC f++fgC g) rfl)
  (by intro u hu;simp [fgC] at hu;rcases hu with rfl | rfl | rfl | rfl | rfl | rfl<;>rfl) hs hx N hN (by unfold maxLen;omega) (by omega) (by simp;omega) ?_
 intro A' c' w' h1 h2 h3 _;refine h A' c' w' (by rw [List.flatMap_append];simpa using h1) (zAb (World.grownBy_alloc w _ _) h2) (fun k hk=>?_);rcases h3 k hk with h | h
 ·exact .inl h
 ·right;simp at h;omega
theorem zPN (w:World):(Instr.build 24 #[(2,.int .i64 1)]).run Tryz.prog w=.ok (.agg #[.slice none 0 0,.int .i64 0,.int .i64 1]) w:=run_build w _ _ _ (by kernel_rfl)
set_option maxHeartbeats 6400000 in
set_option maxRecDepth 100000 in
theorem zCz (w:World):Calls Tryz.prog 56 #[] w fun e w'=>∃A c,e=.returned (frV A 126 c 0 1)∧Row w' w.heap.size 3 A 126 c (AL.flatMap fgC)∧Below w.heap.size w w':=by
 have hb0:Below w.heap.size w (w.alloc (.cells #[.slice none 0 0,.int .i64 0,.int .i64 0] 24)):=(Below.refl _ _).alloc (Nat.le_refl _) _;have hk0:Blk (w.alloc (.cells #[.slice none 0 0,.int .i64 0,.int .i64 0] 24)) w.heap.size 24 #[.slice none 0 0,.int .i64 0,.int .i64 0]:=Blk.new _ _ _;have bfr:=zPN;have bfl:=zKo;have bfrr:=zKp;have bg2:=zUn;go_enter Tryz.func56,Tryz.ntmps56;go_upto_region 1 with fail
 generalize w.alloc (.cells #[.slice none 0 0,.int .i64 0,.int .i64 0] 24)=Y at hb0 hk0 ⊢;have hW0:FbW Y (Y.alloc (.cells #[.slice none 0 0,.int .i64 0,.int .i64 1] 24)) Y.heap.size 0 1 none 0 0 (AL.take 0):=⟨Row.none_ _ _ _,Blk.new _ _ _,fun q hq=>(by cases hq),(Below.refl _ _).alloc (Nat.le_refl _) _⟩;go_upto_region 2 with fail
 generalize hZ:Y.alloc (.cells #[.slice none 0 0,.int .i64 0,.int .i64 1] 24)=Z at hW0 ⊢;clear hZ;obtain ⟨oB,hoB⟩:∃a,Y.heap.size=a:=⟨_,rfl⟩
 have hYo:Y.heap.size≤oB:=by omega
 have hwo:w.heap.size < oB:=by rw [←hoB];exact hk0.lt
 rw [hoB];have hW0:FbW Y Z oB 0 1 none 0 0 (AL.take 0):=by rw [←hoB];exact hW0
 clear hoB;go_wp2_with fail
 go_loopw [2] (fun v2 wv=>∃(i:Nat) (p:Int) (X:World) (A1:Option Addr) (c1:Nat),X=wv∧i≤9∧v2=.int .i64 p∧Hid (p=(i:Int)+1)∧FbW Y X oB 0 1 A1 (14*i) c1 (AL.take (14*i))) (fun v2 _=>10-(intOf v2).toNat)
 case atStart=>exact ⟨0,1,_,none,0,rfl,by omega,rfl,qH rfl,hW0⟩
 case round =>
  obtain ⟨i,p,X,A1,c1,hX,hi,rfl,HP,hW⟩:=hrel;subst hX;clear hW0;by_cases hlt:i < 9
  ·have i1:p≤9:=by have:=HP.out;omega
   have i2:1≤p:=by have:=HP.out;omega
   have hW0:FbW Y X oB 0 1 A1 (14*i+2*0) c1 (AL.take (14*i+2*0)):=hW;clear hW;go_wp2_with fail
   go_loopw [3] (fun v3 wv=>∃(j:Nat) (q:Int) (X:World) (A1:Option Addr) (c1 n1:Nat),X=wv∧j≤7∧v3=.int .i64 q∧Hid (q=(j:Int))∧n1=14*i+2*j∧FbW Y X oB 0 1 A1 n1 c1 (AL.take (14*i+2*j))) (fun v3 _=>7-(intOf v3).toNat)
   case atStart=>exact ⟨0,0,_,A1,c1,_,rfl,by omega,rfl,qH rfl,rfl,hW0⟩
   case round =>
    obtain ⟨j,q,X,A1,c1,n1,hX,hj,rfl,HQ,hn1,hW⟩:=hrel;subst hX;clear hW0;by_cases hjt:j < 7
    ·have j1:q≤6:=by have:=HQ.out;omega
     have j2:0≤q:=by have:=HQ.out;omega
     have hSU:=qH (show AL.take (14*i+2*j)++[⟨p,false,q⟩,⟨p,true,q⟩]=AL.take (14*i+2*j+2) by rw [HP.out,HQ.out];exact zUm hlt hjt);have o0:X.cell? ⟨oB,0,none⟩=some (.slice A1 n1 c1):=(hW.bk.cell 0).trans rfl;have hbX:Y.heap.size≤X.heap.size:=hW.old.size;have hj9:n1+2≤1000000:=by omega
     have HN1:=qH hn1;clear hn1;go_upto_region 7 with (at_builtin;refine zEP ?_)
     refine qH ?_;refine zVF (base:=Y.heap.size) (A:=A1) (n:=n1) (c:=c1) (L:=AL.take (14*i+2*j)) rfl (.tmp 14) (.tmp 21) ?_ ?_ ⟨p,false,q⟩ ⟨p,true,q⟩ ?_ X.heap.size rfl ?_ (n1+2) rfl hj9 hbX ?_
     ·rfl
     ·exact hW.own
     ·rfl
     ·rfl
     intro A2 c2 w9 hO9 hg9 hl9';obtain ⟨kb9,hW9⟩:=hW.pushed hYo hO9 hg9 hl9';have p1:w9.cell? ⟨oB,0,none⟩=some (.slice A1 n1 c1):=(kb9.cell 0).trans rfl;have z1:=kb9.frozen 0;rw [hSU.out] at hW9;have HW9:=qH hW9;clear hW hO9 hg9 hl9' hW9 kb9 o0;go_wp2_with fail
     go_roundw
     case rel=>exact ⟨j+1,q+1,_,A2,c2,n1+2,rfl,by omega,by go_num,qH (by rw [HQ.out];omega),by have:=HN1.out;omega,HW9.out⟩
     case measure=>simp [intOf];omega
    ·obtain rfl:j=7:=by omega
     obtain rfl:q=7:=HQ.out;clear HQ
     have HW2:=qH (show FbW Y X oB 0 1 A1 (14*(i+1)) c1 (AL.take (14*(i+1))) by
      have h:=hW
      rw [hn1] at h
      exact h)
     clear hW hn1;go_wp2_with fail
     go_roundw
     case rel=>exact ⟨i+1,p+1,_,A1,c1,rfl,by omega,by go_num,qH (by rw [HP.out];omega),HW2.out⟩
     case measure=>simp [intOf];omega
  ·obtain rfl:i=9:=by omega
   obtain rfl:p=10:=HP.out;clear HP;have hRl:w.heap.size < Y.heap.size:=hk0.lt;have hR3:=hk0.below hW.old hRl;have e0:X.cell? ⟨oB,0,none⟩=some (.slice A1 (14*9) c1):=(hW.bk.cell 0).trans rfl;have e1:X.cell? ⟨oB,1,none⟩=some (.int .i64 0):=(hW.bk.cell 1).trans rfl;have e2:X.cell? ⟨oB,2,none⟩=some (.int .i64 1):=(hW.bk.cell 2).trans rfl;have r0:X.cell? ⟨w.heap.size,0,none⟩=some (.slice none 0 0):=(hR3.cell 0).trans rfl;have r1:X.cell? ⟨w.heap.size,1,none⟩=some (.int .i64 0):=(hR3.cell 1).trans rfl;have r2:X.cell? ⟨w.heap.size,2,none⟩=some (.int .i64 0):=(hR3.cell 2).trans rfl;have z0:=hR3.frozen 0;have z1:=hR3.frozen 1;have z2:=hR3.frozen 2;have HR3:=qH hR3;have HW:=qH hW;have hwY:=hb0.size;clear hlt hW hR3;go_wp2_with fail
   have hS:Blk (((X.setCell ⟨w.heap.size,0,none⟩ (.slice A1 (14*9) c1)).setCell ⟨w.heap.size,1,none⟩ (.int .i64 0)).setCell ⟨w.heap.size,2,none⟩ (.int .i64 1)) w.heap.size 24 #[.slice A1 (14*9) c1,.int .i64 0,.int .i64 1]:=((HR3.out.set_ 0 _).set_ 1 _).set_ 2 _;have gS:=zAg (zAg (zAg (World.grownBy.refl X (some w.heap.size)) (p:=⟨w.heap.size,0,none⟩) (.inl rfl) (.slice A1 (14*9) c1)) (p:=⟨w.heap.size,1,none⟩) (.inl rfl) (.int .i64 0)) (p:=⟨w.heap.size,2,none⟩) (.inl rfl) (.int .i64 1);have hbS:=(((zAa hb0 HW.out.old hwY).setCell (p:=⟨w.heap.size,0,none⟩) (Nat.le_refl _) (.slice A1 (14*9) c1)).setCell (p:=⟨w.heap.size,1,none⟩) (Nat.le_refl _) (.int .i64 0)).setCell (p:=⟨w.heap.size,2,none⟩) (Nat.le_refl _) (.int .i64 1);have hT:AL.take (14*9)=AL:=List.take_of_length_le (by rw [zJV];omega);have hLk:Row (((X.setCell ⟨w.heap.size,0,none⟩ (.slice A1 (14*9) c1)).setCell ⟨w.heap.size,1,none⟩ (.int .i64 0)).setCell ⟨w.heap.size,2,none⟩ (.int .i64 1)) w.heap.size 3 A1 126 c1 (AL.flatMap fgC):=by
    have h:=HW.out.own;rw [hT] at h;refine (h.kept gS ?_).mono hwY
    cases hb:blk A1 with
    | none=>exact .inl rfl
    | some q=>exact .inr (by have:=(HW.out.own.lt q hb).1;simp;omega)
   (try simp only [Exit.inBlock,Exit.then])
   refine zAi rfl rfl hS Tryz.underlying24 rfl (by kernel_rfl) rfl ?_;exact ⟨A1,c1,rfl,hLk,hbS⟩
end Go.Proofs.YtlmdfmnbcndhoaaGreatDoor
