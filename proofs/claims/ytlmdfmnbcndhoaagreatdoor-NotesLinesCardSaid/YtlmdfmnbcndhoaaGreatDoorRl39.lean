/-
  Lemmas, part 39. Conditions: each theorem's own.
-/
import Derived.Test.YtlmdfmnbcndhoaaGreatDoorRl38
import Derived.Test.YtlmdfmnbcndhoaaGreatDoorRl04
import Derived.Test.YtlmdfmnbcndhoaaGreatDoorRl11
import Derived.Test.YtlmdfmnbcndhoaaGreatDoorRl31
import Derived.Test.YtlmdfmnbcndhoaaGreatDoorRl01
import Derived.Deep.RegionHeld3
import Derived.Deep.DeepCutAuto
import Derived.Test.YtlmdfmnbcndhoaaGreatDoorRl02
import Derived.Test.YtlmdfmnbcndhoaaGreatDoorRl36
namespace Go.Proofs.YtlmdfmnbcndhoaaGreatDoor
open Go.RowKit
def stdF:List Fg:=[⟨1,false,1⟩,⟨1,false,2⟩,⟨1,false,3⟩,⟨1,false,4⟩,⟨1,false,5⟩,⟨1,true,5⟩,⟨1,true,4⟩,⟨1,true,3⟩,⟨1,true,2⟩,⟨1,true,1⟩]
def exL (s:Int):List Lt:=[⟨1,1,1,0,0,false⟩,⟨1,0,1,0,0,false⟩,⟨2,0,0,1,s,false⟩,⟨1,9,1,0,0,false⟩,⟨1,10,1,0,0,false⟩,⟨2,0,0,1,s,true⟩]
def exS:List UInt8:=[76,49,46,49,60,32,49,117,32,82,49,46,49,62,32,49,111]
def exT:List It:=[⟨some ⟨1,false,1⟩,1,false⟩,⟨none,1,false⟩,⟨some ⟨1,true,1⟩,1,true⟩,⟨none,1,true⟩]
def exB:List Bi:=[⟨1,1,false⟩,⟨0,1,false⟩,⟨10,1,true⟩,⟨0,1,true⟩]
theorem zWm:Lib.join (exT.map itW) [32]=exS:=by kernel_rfl
theorem zXt:∀t∈exT,okI t:=by
 intro t ht;simp only [exT,List.mem_cons,List.not_mem_nil,or_false] at ht;rcases ht with rfl | rfl | rfl | rfl<;>refine ⟨fun f hf=>?_,by simp only;omega,by simp only;omega⟩<;>first | (cases hf;done) | (injection hf with hf;subst hf;decide)
theorem zSj:zGi stdF exS=exB∧zEq (zAR 32 exS)=false∧zFP stdF (zAR 32 exS)=false:=by
 obtain ⟨h1,h2,h3⟩:=zQe stdF zXt;have hs:zAR 32 exS=exT.map itW:=by rw [←zWm];exact zNW (by simp [exT])
 unfold zGi;rw [hs,h1,h2,h3];exact ⟨by kernel_rfl,by kernel_rfl,by kernel_rfl⟩
theorem zSk:zAy stdF 6 4 exS=0:=by kernel_rfl
theorem zUU:zFR exB=true:=by kernel_rfl
theorem zSl:zAZ stdF 6 4 (zFQ exB / 2) (zAT (zCt stdF.length exB) exB) (2 ^ (zFQ exB / 2))=[exL 1]:=by kernel_rfl
theorem zSm:¬(12 < zFQ exB / 2∨400 < (zAT (zCt stdF.length exB) exB).length):=by decide
theorem zXu:rqR stdF 6 4 exS=([exL 1],0):=by
 obtain ⟨h1,h2,h3⟩:=zSj;unfold rqR zBS crS;rw [h1,zSk,if_neg (by simp),if_neg (by decide),if_neg (by rw [h2];simp),if_neg (by rw [h3];simp),if_neg (by rw [zUU];simp),if_neg zSm,zSl,if_neg (by simp)]
theorem zTp:sqS stdF 6 4 10 (exL 1)=exS∧zCU stdF 6 4 10 (exL 1)=0:=⟨by kernel_rfl,by kernel_rfl⟩
end Go.Proofs.YtlmdfmnbcndhoaaGreatDoor
namespace Go.Proofs.YtlmdfmnbcndhoaaGreatDoor
open Go.RowKit
def zXv:List UInt8:=[116,97,107,101,32,76,50,32,102,114,111,109,32,76,55,32,102,97,114,32,117,110,100,101,114]
def zXw:List UInt8:=[114,101,108,101,97,115,101,32,50,76,49]
theorem zSn {f:Fg} (h:zAl f=true):zAi f≠[76,55]:=by
 obtain ⟨a1,a2,a3,a4⟩:=zAt.1 h;intro e;unfold zAi at e;rw [zCg a3 (by omega)] at e;have:=congrArg List.getLast? e;simp only [List.getLast?_append,List.getLast?_cons] at this;have h2:=zIN (a:=48+f.d.toNat) (b:=55) (by omega) (by omega) (by simpa using this);omega
theorem zUV (L:List Fg):zDe L zXv=6:=by
 refine (zKn L fun n hn he=>?_).1;have h:=zDR n;rw [←he,show zBp zXv=[[116,97,107,101],[76,50],[102,114,111,109],[76,55],[102,97,114],[117,110,100,101,114]] by kernel_rfl] at h;unfold zIQ at h;injection h with h1 h2
 injection h2 with h2 h3
 have gH:1≤n.kind∧n.kind≤8:=by
  rcases hn.2 with h | h | h | h | h<;>omega
 have hk:n.kind=5:=by
  rw [←zCo gH.1 gH.2,←h1];decide
 obtain ⟨x,hx,hxo⟩:∃x,n.fr=some x∧zBX x:=by
  rcases hn.2 with h | h | h | h | h
  ·omega
  ·omega
  ·omega
  ·exact h.2.1
  ·omega
 unfold tlT at h3;rw [if_neg (by omega),if_neg (by omega),if_pos hk] at h3;injection h3 with _ h4
 unfold frT at h4;rw [hx] at h4;unfold plT at h4;injection h4 with h5 _
 exact zSn hxo.1 h5.symm
theorem zUW:zDe stdF zXw=8:=by
 have h:okN ⟨1,⟨2,false,1⟩,none,[],false⟩:=⟨by decide,.inl ⟨.inl rfl,rfl,rfl,rfl⟩⟩;have hl:zCb ⟨1,⟨2,false,1⟩,none,[],false⟩=zXw:=by kernel_rfl
 have:=(zEW stdF h).1;rw [hl] at this;rw [this];decide
end Go.Proofs.YtlmdfmnbcndhoaaGreatDoor
namespace Go.Proofs.YtlmdfmnbcndhoaaGreatDoor
open Go.RowKit
def exO:Og:=⟨3,9,⟨5,1,false,0⟩,[⟨⟨6,1,false,0⟩,true⟩],false⟩
def zXx:List UInt8:=[112,105,99,107,32,82,50,32,111,118,101,114,32,82,53,32,110,101,97,114,32,108,111,111,112,32,49,44,32,102,114,111,109,32,76,53,32,110,101,97,114,32,108,111,111,112,32,49]
def zMV:List UInt8:=[82,50,60,82,53,110,111,60,76,53,110]
def zXy:List UInt8:=[112,105,99,107,32,82,50,32,111,118,101,114,32,82,53,32,110,101,97,114,44,32,102,114,111,109,32,76,53,32,110,101,97,114,10]
theorem zMW:zAF stdF 6 4 [exO]=0∧zBb stdF exO=zXx:=⟨by kernel_rfl,by kernel_rfl⟩
def exN:Nop:=⟨3,⟨1,true,2⟩,some ⟨⟨1,false,5⟩,0,false,0⟩,[(⟨⟨1,true,5⟩,0,false,0⟩,true)],false⟩
theorem zTq:okN exN∧zXe exN:=by
 have h1:zBX ⟨⟨1,false,5⟩,0,false,0⟩:=⟨by decide,by simp,by simp,by simp,by simp⟩;have h2:zBX ⟨⟨1,true,5⟩,0,false,0⟩:=⟨by decide,by simp,by simp,by simp,by simp⟩;refine ⟨⟨by decide,.inr (.inr (.inl ⟨rfl,⟨_,rfl,h1⟩,fun y hy=>?_,rfl⟩))⟩,rfl,fun x hx=>?_,fun y hy=>?_⟩
 ·rw [List.mem_singleton.1 hy];exact h2
 ·injection hx with hx;rw [←hx];exact ⟨rfl,rfl,rfl⟩
 ·rw [List.mem_singleton.1 hy];exact ⟨rfl,rfl,rfl⟩
theorem zUX:zHf exN=zMV:=by kernel_rfl
theorem zMX:itE stdF zMV=0∧itO stdF zMV=[oOf stdF exN]:=by
 have hs:zAR 32 zMV=[zMV]:=by kernel_rfl
 have h:=zUf zTq.1 zTq.2;rw [zUX] at h;have ha:zCS (zAR 32 zMV)=some [exN]:=by rw [hs,zCS,h,zCS]
 have hl:List.any [exN] (zAB stdF)=false:=by decide
 unfold itE itO;rw [if_neg (by decide),if_neg (by decide),ha];simp only [hl];exact ⟨rfl,rfl⟩
theorem zMY:trE stdF 6 4 zMV 2 1=0∧trS stdF 6 4 zMV 2 1=zXy:=by
 have hb:zAy stdF 6 4 zMV=0:=by kernel_rfl
 have hf:frB stdF 6 4=true:=by kernel_rfl
 have h1:ntE stdF 6 4 2 zMV=0:=by
  unfold ntE rsE;rw [if_neg (by omega),if_pos hb];exact zMX.1
 have h2:ntO stdF 6 4 2 zMV=[oOf stdF exN]:=by
  unfold ntO rsO;rw [if_neg (by omega),if_pos hb];exact zMX.2
 have h3:trE stdF 6 4 zMV 2 1=0:=by
  unfold trE;rw [if_pos ⟨hf,.inr rfl,.inl rfl⟩,if_pos h1,if_neg (by omega)]
 refine ⟨h3,?_⟩;unfold trS;rw [if_pos h3,h2]
 kernel_rfl
end Go.Proofs.YtlmdfmnbcndhoaaGreatDoor
namespace Go.Proofs.YtlmdfmnbcndhoaaGreatDoor
open Go
def ovC (o:Bool):UInt8:=if o then 111 else 117
def sgC (s:Int):UInt8:=if s=1 then 43 else if s = -1 then 45 else 63
def ltS (l:Lt):List UInt8:=if l.kind=1 then Lib.itoa l.gate++[46]++Lib.itoa l.rank else if l.kind=2 then Lib.itoa l.id++[ovC l.over]++[sgC l.sign] else [63]
def zKF (L:List Lt):List UInt8:=L.flatMap (fun l=>32 :: ltS l)
def zCu (K:Int) (L:List Lt):List UInt8:=Lib.itoa K++[58]++zKF L
theorem zJt (L:List Lt) (l:Lt):zKF (L++[l])=zKF L++([32]++ltS l):=by unfold zKF;rw [List.flatMap_append];simp
theorem zQq {x:Int} (h:I64 x):-9223372036854775808≤x∧x≤9223372036854775807:=h
theorem zQr {l:Lt} (h:LtOk l):(ltS l).length≤44:=by
 have hg:=zQq h.gate;have hr:=zQq h.rank;have hi:=zQq h.id;have h1:=Lib.itoa_length_le _ hg.1 hg.2;have h2:=Lib.itoa_length_le _ hr.1 hr.2;have h3:=Lib.itoa_length_le _ hi.1 hi.2;unfold ltS;split
 ·simp;omega
 ·split
  ·simp;omega
  ·simp
theorem zGj:∀{L:List Lt},(∀x∈L,LtOk x)→(zKF L).length≤45*L.length
 | [],_=>by simp [zKF]
 | l :: L,h=>by
  have h1:=zQr (h l (List.mem_cons_self ..));have h2:=zGj (fun x hx=>h x (List.mem_cons_of_mem _ hx));unfold zKF at h2 ⊢;rw [List.flatMap_cons,List.length_append,List.length_cons,List.length_cons];omega
theorem zNZ {K:Int} {L:List Lt} (hK:I64 K) (h:∀x∈L,LtOk x):(zCu K L).length≤45*L.length+22:=by
 have h1:=Lib.itoa_length_le K hK.1 hK.2;have h2:=zGj h;unfold zCu;simp only [List.length_append,List.length_cons,List.length_nil];omega
end Go.Proofs.YtlmdfmnbcndhoaaGreatDoor
namespace Go.Proofs.YtlmdfmnbcndhoaaGreatDoor
open Go.RowKit
theorem zJu {x:Int} (hx:I64 x):(Lib.itoa x).length≤21:=Lib.itoa_length_le x hx.1 hx.2
end Go.Proofs.YtlmdfmnbcndhoaaGreatDoor
namespace Go.Proofs.YtlmdfmnbcndhoaaGreatDoor
open Go.RowKit
theorem zXz {L:List Lt} {i:Nat} (h:i < L.length):L[i]? = some (la L i):=by unfold la;rw [List.getElem?_eq_getElem h];rfl
theorem zUY {L:List Lt} {i:Nat} (h:i < L.length):L.take (i+1)=L.take i++[la L i]:=by rw [List.take_add_one,zXz h];rfl
theorem zLX {K:Int} {L:List Lt} {i:Nat} (h:i < L.length):zCu K (L.take (i+1))=zCu K (L.take i)++32 :: ltS (la L i):=by
 unfold zCu;rw [zUY h,zJt];simp
theorem zUZ {L:List Lt} (i:Nat) (h:∀x∈L,LtOk x):∀x∈L.take i,LtOk x:=fun x hx=>h x (List.mem_of_mem_take hx)
end Go.Proofs.YtlmdfmnbcndhoaaGreatDoor
namespace Go.Proofs.YtlmdfmnbcndhoaaGreatDoor
open Go.RowKit
theorem zMZ (sign:Int):((sign==1)=true∧sgC sign=43)∨((sign==1)=false∧(sign==-1)=true∧sgC sign=45)∨((sign==1)=false∧(sign==-1)=false∧sgC sign=63):=by
 unfold sgC;by_cases h1:sign=1
 ·exact .inl ⟨by simpa using h1,by rw [if_pos h1]⟩
 ·by_cases h2:sign = -1
  ·exact .inr (.inl ⟨by simpa using h1,by simpa using h2,by rw [if_neg h1,if_pos h2]⟩)
  ·exact .inr (.inr ⟨by simpa using h1,by simpa using h2,by rw [if_neg h1,if_neg h2]⟩)
set_option maxRecDepth 100000 in
set_option maxHeartbeats 6400000 in
theorem zLY (K:Int) (A:Option Addr) (n c:Nat) (L:List Lt) (w:World) (hA:Lets w A n L) (hn:n≤1000) (hK:I64 K) :
  Calls Tryz.prog 50 #[.agg #[.int .i64 K,.slice A n c]] w fun e w'=>e=.returned (.string (bA (zCu K L)))∧Below w.heap.size w w':=by
 have cq:=qH hA.len;have hbx:=Boxed.refl w K A n c;have HK:=qH hK;have hok:=hA.fits;have gw:=qH hok;have zK:=zJu hK;have s0:=zAA (Lib.itoa K) [58] (by omega) (by simp);rw [show bA [58]=⟨#[58]⟩ from rfl] at s0;have hst:Hid (bA (Lib.itoa K++[58])=bA (zCu K (L.take 0))):=qH (by unfold zCu zKF;simp);have x0:=hbx.c0;clear hK hok;go_enter Tryz.func50,Tryz.ntmps50;go_wp2_with fail
 refine (zBh K HK.out _).mono ?_;rintro e w1 ⟨rfl,ay⟩;have ai:=hbx.more ay;clear hbx ay x0;go_wp2_with fail
 go_loopw [3,4,5,6] (fun v3 v4 _ _ wr=>∃(i:Nat) (S:ByteArray),i≤n∧v4=.int .i64 i∧v3=.string S∧Boxed w wr K A n c∧Hid (S=bA (zCu K (L.take i)))) (fun _ v4 _ _ _=>n-(intOf v4).toNat)
 case atStart=>exact ⟨0,_,Nat.zero_le _,rfl,rfl,ai,hst⟩
 case round =>
  obtain ⟨i,S,hi,rfl,rfl,hbr,HS⟩:=hrel;clear hst ai;have x1:=hbr.c1;by_cases hlt:i < n
  ·obtain ⟨gg,o,rfl,hgg,hx,hok⟩:=(hA.below hbr.below).at_ hlt;obtain ⟨y0,y1,y2,y3,y4,y5⟩:=hx;have hil:i < L.length:=by rw [cq.out];exact hlt
   have zw:=zQr hok;have zp:=zNZ HK.out (zUZ i gw.out);have zt:(L.take i).length≤1000:=by rw [List.length_take];omega
   have i0:(0:Int)≤(i:Int):=by omega
   have i1:(i:Int) < (n:Int):=by omega
   have s1:=zAA (zCu K (L.take i)) [32] (by omega) (by simp);have s2:=zAA (zCu K (L.take i)++[32]) (ltS (la L i)) (by simp;omega) (by omega);rw [show bA [32]=⟨#[32]⟩ from rfl] at s1;rw [←HS.out] at s1;obtain ⟨D,hD⟩:∃D,D=bA (zCu K (L.take i)++[32]):=⟨_,rfl⟩
   obtain ⟨E,hE⟩:∃E,E=bA ((zCu K (L.take i)++[32])++ltS (la L i)):=⟨_,rfl⟩
   obtain ⟨W,hW⟩:∃W,W=bA (ltS (la L i)):=⟨_,rfl⟩
   rw [←hE,←hD,←hW] at s2;rw [←hD] at s1;have cn:=qH (show E=bA (zCu K (L.take (i+1))) by rw [hE,zLX hil];simp);have HW:=qH hW;have aR:=qH (show I64 (la L i).gate∧I64 (la L i).rank∧I64 (la L i).id from ⟨hok.gate,hok.rank,hok.id⟩);obtain ⟨kind,hk⟩:∃k,(la L i).kind=k:=⟨_,rfl⟩
   obtain ⟨gate,hg⟩:∃k,(la L i).gate=k:=⟨_,rfl⟩
   obtain ⟨rank,hr⟩:∃k,(la L i).rank=k:=⟨_,rfl⟩
   obtain ⟨id,hid⟩:∃k,(la L i).id=k:=⟨_,rfl⟩
   obtain ⟨sign,hs⟩:∃k,(la L i).sign=k:=⟨_,rfl⟩
   obtain ⟨over,ho⟩:∃k,(la L i).over=k:=⟨_,rfl⟩
   have hl:la L i=⟨kind,gate,rank,id,sign,over⟩:=by rw [←hk,←hg,←hr,←hid,←hs,←ho]
   rw [hk] at y0;rw [hg] at y1;rw [hr] at y2;rw [hid] at y3;rw [hs] at y4;rw [ho] at y5;rw [hg,hr,hid] at aR;rw [hl] at HW;have zG:=zJu aR.out.1;have zR:=zJu aR.out.2.1;have zI:=zJu aR.out.2.2;clear HS hD hE hW zw zp zt hok hk hg hr hid hs ho hl;go_upto_region 6 with fail
   obtain ⟨X,hX⟩:∃X,X=wr.alloc (.cells #[.int .i64 kind,.int .i64 gate,.int .i64 rank,.int .i64 id,.int .i64 sign,.bool over] 76):=⟨_,rfl⟩
   rw [←hX];have hk0:Blk X wr.heap.size 76 #[.int .i64 kind,.int .i64 gate,.int .i64 rank,.int .i64 id,.int .i64 sign,.bool over]:=by rw [hX];exact Blk.new _ _ _
   have bh:Boxed w X K (some ⟨gg,o,none⟩) n c:=by rw [hX];exact hbr.alloc _
   have oF:=hk0.lt;clear hX y0 y1 y2 y3 y4 y5 x1 hbr;obtain ⟨c0,c1,c2,c3⟩:=cQ4 hk0;by_cases k1:kind=1
   ·have q1:(kind==1)=true:=by simpa using k1
    have q2:(kind==2)=false:=by simp;omega
    have hf:=show W=bA (Lib.itoa gate++46 :: Lib.itoa rank) by rw [HW.out];unfold ltS;rw [if_pos k1];simp
    have t1:=zAA (Lib.itoa gate) [46] (by omega) (by simp);have t2:=zAA (Lib.itoa gate++[46]) (Lib.itoa rank) (by simp;omega) (by omega);rw [show bA [46]=⟨#[46]⟩ from rfl] at t1;rw [hf] at s2;clear k1 zI zG zR HW hf;have KP:=qH (show ∀wx,Below X.heap.size X wx→(Below X.heap.size X wx∧wx.cell? ⟨wr.heap.size,1,none⟩=some (.int .i64 gate)∧wx.cell? ⟨wr.heap.size,2,none⟩=some (.int .i64 rank)) from fun wx h=>⟨h,(h.cell (p:=⟨wr.heap.size,1,none⟩) oF).trans c1,(h.cell (p:=⟨wr.heap.size,2,none⟩) oF).trans c2⟩);go_wp2_with fail
    first
     | go_region_held3 (fun wx=>Below X.heap.size X wx∧wx.cell? ⟨wr.heap.size,1,none⟩=some (.int .i64 gate)∧wx.cell? ⟨wr.heap.size,2,none⟩=some (.int .i64 rank)) (first | assumption | exact KP.out _ (Below.refl _ _).drew | exact KP.out _ (zAa (And.left (by assumption)) (by assumption) (Below.size (And.left (by assumption)))))
       (first
        | (go_at_call 78;refine (zBh gate aR.out.1 _).mono ?_;rintro e wx ⟨rfl,aw⟩)
        | (go_at_call 78;refine (zBh rank aR.out.2.1 _).mono ?_;rintro e wx ⟨rfl,aw⟩))
     | fail
    all_goals
     have hbf:=And.left (show Below X.heap.size X _∧_ by assumption);have e0:World.cell? _ ⟨wr.heap.size,0,none⟩=some (.int .i64 kind):=((hk0.below hbf oF).cell 0).trans rfl;clear hk0;have kA:=bh.more hbf;clear bh;go_wp2_with fail
     go_roundw
     case rel=>exact ⟨i+1,E,by omega,by go_num,rfl,kA,cn⟩
     case measure=>simp [intOf];omega
   ·have q1:(kind==1)=false:=by simpa using k1
    by_cases k2:kind=2
    ·have q2:(kind==2)=true:=by simpa using k2
     have t1:=zAA (Lib.itoa id) [117] (by omega) (by simp);have t2:=zAA (Lib.itoa id) [111] (by omega) (by simp);have t3:=zAA (Lib.itoa id++[117]) [43] (by simp;omega) (by simp);have t4:=zAA (Lib.itoa id++[117]) [45] (by simp;omega) (by simp);have t5:=zAA (Lib.itoa id++[117]) [63] (by simp;omega) (by simp);have t6:=zAA (Lib.itoa id++[111]) [43] (by simp;omega) (by simp);have t7:=zAA (Lib.itoa id++[111]) [45] (by simp;omega) (by simp);have t8:=zAA (Lib.itoa id++[111]) [63] (by simp;omega) (by simp);rw [show bA [117]=⟨#[117]⟩ from rfl] at t1;rw [show bA [111]=⟨#[111]⟩ from rfl] at t2;rw [show bA [43]=⟨#[43]⟩ from rfl] at t3 t6;rw [show bA [45]=⟨#[45]⟩ from rfl] at t4 t7;rw [show bA [63]=⟨#[63]⟩ from rfl] at t5 t8;clear zG zR zI c1 c2
     cases over with
     | false =>
      rcases zMZ sign with ⟨n1,hS⟩ | ⟨n1,n2,hS⟩ | ⟨n1,n2,hS⟩
      all_goals
       have hf:=show W=bA (Lib.itoa id++[ovC false,sgC sign]) by rw [HW.out];unfold ltS;rw [if_neg k1,if_pos k2];simp
       rw [hS,show ovC false=117 from rfl] at hf;rw [hf] at s2;clear hS hf HW;go_wp2_with fail
       refine (zBh id aR.out.2.2 _).mono ?_;rintro e w2 ⟨rfl,al⟩;have hk2:=hk0.below al oF;obtain ⟨-,-,-,-,d4,d5⟩:=cQ6 hk2;clear hk2 hk0;have kA:=bh.more al;clear bh;go_wp2_with fail
       go_roundw
       case rel=>exact ⟨i+1,E,by omega,by go_num,rfl,kA,cn⟩
       case measure=>simp [intOf];omega
     | true =>
      rcases zMZ sign with ⟨n1,hS⟩ | ⟨n1,n2,hS⟩ | ⟨n1,n2,hS⟩
      all_goals
       have hf:=show W=bA (Lib.itoa id++[ovC true,sgC sign]) by rw [HW.out];unfold ltS;rw [if_neg k1,if_pos k2];simp
       rw [hS,show ovC true=111 from rfl] at hf;rw [hf] at s2;clear hS hf HW;go_wp2_with fail
       refine (zBh id aR.out.2.2 _).mono ?_;rintro e w2 ⟨rfl,al⟩;have hk2:=hk0.below al oF;obtain ⟨-,-,-,d3,-,d5⟩:=cQ6 hk2;have BB:=hk2.lt;go_wp2_with fail
       refine (zBh id aR.out.2.2 _).mono ?_;rintro e w3 ⟨rfl,aI⟩;have e4:w3.cell? ⟨wr.heap.size,4,none⟩=some (.int .i64 sign):=((hk2.below aI BB).cell 4).trans rfl;have aw:=al.trans (aI.mono al.size);clear d3 d5 hk2 hk0;have kA:=bh.more aw;clear bh;go_wp2_with fail
       go_roundw
       case rel=>exact ⟨i+1,E,by omega,by go_num,rfl,kA,cn⟩
       case measure=>simp [intOf];omega
    ·have q2:(kind==2)=false:=by simpa using k2
     have hf:=show W=bA [63] by rw [HW.out];unfold ltS;rw [if_neg k1,if_neg k2]
     rw [hf,show bA [63]=⟨#[63]⟩ from rfl] at s2;have al:=Below.refl X.heap.size X;clear k1 k2 zG zR zI HW hf;have kA:=bh.more al;clear bh;go_wp2_with fail
     go_roundw
     case rel=>exact ⟨i+1,E,by omega,by go_num,rfl,kA,cn⟩
     case measure=>simp [intOf];omega
  ·have hin:i=n:=by omega
   have hS:=HS.out;rw [hin,List.take_of_length_le (by rw [cq.out];exact Nat.le_refl _)] at hS;have cn:=qH hS;have i1:¬(i:Int) < (n:Int):=by omega
   clear hS hin HS;go_wp2_with fail
   go_ret;exact ⟨by rw [←cn.out];rfl,hbr.below⟩
end Go.Proofs.YtlmdfmnbcndhoaaGreatDoor
namespace Go.Proofs.YtlmdfmnbcndhoaaGreatDoor
open Go.RowKit
def exP:List UInt8:=[49,48,58,32,49,46,49,32,48,46,49,32,49,117,43,32,57,46,49,32,49,48,46,49,32,49,111,43]
theorem zSo:zCu 10 (exL 1)=exP:=by kernel_rfl
end Go.Proofs.YtlmdfmnbcndhoaaGreatDoor
namespace Go.Proofs.YtlmdfmnbcndhoaaGreatDoor
open Go.RowKit
def fgC (f:Fg):List Value:=[.int .i64 f.p,.bool f.r,.int .i64 f.d]
theorem zNa:(Tryz.prog.info? 90).map (fun i=>(i.zero,i.size,i.bytes))=some (some (.agg #[.int .i64 0,.bool false,.int .i64 0]),3,24):=by kernel_rfl
theorem zXA (p d:Int) (r:Bool) (w:World):(Instr.buildSlice 22 1 #[(0,.agg #[.int .i64 p,.bool r,.int .i64 d])]).run Tryz.prog w=.ok (.slice (some ⟨w.heap.size,0,none⟩) 1 1) (w.alloc (.cells #[.int .i64 p,.bool r,.int .i64 d] 90)):=by
 obtain ⟨i0,hi,ci,be,cH⟩:=info_parts zNa;refine run_buildSlice w _ _ 1 _ _ i0 _ Tryz.underlying22 hi ci (by rw [be];omega) (by rw [be];omega) ?_;rw [be]
 kernel_rfl
theorem zWn {w:World} {ops:Array Oper} {rest:List Oper} {o:Oper} {a:Act} {Q':Exit→Act→World→Prop} (hgd:o.guard=none) (s x:Operand)
  (ho:o.op=.call { callee:=.builtin .append,args:=#[s,x],argTypes:=#[22,22] })
  {base:Nat} {A:Option Addr} {n c:Nat} {L:List Fg} (hst:Row w base 3 A n c (L.flatMap fgC)) (f:Fg) (hs:a.eval s=.slice A n c)
  (H:Nat) (hH:w.heap.size=H) (hx:a.eval x=.slice (some ⟨H,0,none⟩) 1 1) (N:Nat) (hN:n+1=N) (hn:N≤1000000) (hbase:base≤w.heap.size)
  (h:∀A' c' w',Row w' base 3 A' N c' ((L++[f]).flatMap fgC)→w.grownBy w' (blk A)→(∀k,blk A'=some k→blk A=some k∨w.heap.size≤k)→wpList Tryz.prog ops Q' rest (a.put o.dst (.slice A' N c')) w') :
  wpList Tryz.prog ops Q' (o :: rest) a (w.alloc (.cells #[.int .i64 f.p,.bool f.r,.int .i64 f.d] 90)):=by
 subst hH;obtain ⟨i0,hi,ci,be,cH⟩:=info_parts zNa
 refine zQL hgd s x 22 ho 90 i0 _ 3 24 Tryz.underlying22 hi ci be cH rfl (by decide) (hst.alloc _) (Src.new (m:=1) (cs:=fgC f) rfl)
  (by intro u hu;simp [fgC] at hu;rcases hu with rfl | rfl | rfl<;>rfl) hs hx N hN (by unfold maxLen;omega) (by omega) (by simp;omega) ?_
 intro A' c' w' h1 h2 h3 _;refine h A' c' w' (by rw [List.flatMap_append];simpa using h1) (zAb (World.grownBy_alloc w _ _) h2) (fun k hk=>?_);rcases h3 k hk with h | h
 ·exact .inl h
 ·right;simp at h;omega
end Go.Proofs.YtlmdfmnbcndhoaaGreatDoor
namespace Go.Proofs.YtlmdfmnbcndhoaaGreatDoor
open Go.RowKit
theorem zWo {i:Nat} (h:i < 5):(stdF.take i)++[⟨1,false,(i:Int)+1⟩]=stdF.take (i+1):=by
 rcases i with _ | _ | _ | _ | _ | i<;>first | rfl | omega
theorem zSp {i:Nat} (h:i < 5):(stdF.take (5+i))++[⟨1,true,5-(i:Int)⟩]=stdF.take (5+i+1):=by
 rcases i with _ | _ | _ | _ | _ | i<;>first | rfl | omega
end Go.Proofs.YtlmdfmnbcndhoaaGreatDoor
namespace Go.Proofs.YtlmdfmnbcndhoaaGreatDoor
open Go.RowKit
structure FbW (Y w:World) (oB:Nat) (re lo:Int) (A:Option Addr) (n c:Nat) (L:List Fg):Prop where
 own:Row w Y.heap.size 3 A n c (L.flatMap fgC)
 bk:Blk w oB 24 #[.slice A n c,.int .i64 re,.int .i64 lo]
 far:∀q,blk A=some q→q≠oB
 old:Below Y.heap.size Y w
theorem FbW.pushed {Y w w':World} {oB:Nat} {re lo:Int} {A A':Option Addr} {n c N c':Nat} {L L':List Fg} (h:FbW Y w oB re lo A n c L) (hY:Y.heap.size≤oB) (hown:Row w' Y.heap.size 3 A' N c' (L'.flatMap fgC)) (hg:w.grownBy w' (blk A)) (hl:∀k,blk A'=some k→blk A=some k∨w.heap.size≤k) :
  Blk w' oB 24 #[.slice A n c,.int .i64 re,.int .i64 lo]∧FbW Y (w'.setCell ⟨oB,0,none⟩ (.slice A' N c')) oB re lo A' N c' L':=by
 have hb:Blk w' oB 24 #[.slice A n c,.int .i64 re,.int .i64 lo]:=h.bk.grown hg (fun e=>h.far oB e.symm rfl);have hf:∀q,blk A'=some q→q≠oB:=fun q hq=>by
  rcases hl q hq with e | e
  ·exact h.far q e
  ·have:=h.bk.lt;omega
 have hold:Below Y.heap.size Y w':=h.old.trans ((Below.refl _ _).grown hg h.old.size (fun k hk=>(h.own.lt k hk).1));exact ⟨hb,⟨hown.farSet 0 _ hf,hb.set_ 0 _,hf,hold.setCell (p:=⟨oB,0,none⟩) hY _⟩⟩
theorem zWT (w:World):(Instr.build 24 #[(1,.int .i64 6),(2,.int .i64 4)]).run Tryz.prog w=.ok (.agg #[.slice none 0 0,.int .i64 6,.int .i64 4]) w:=run_build w _ _ _ (by kernel_rfl)
theorem zKG (p d:Int) (w:World):(Instr.build 90 #[(0,.int .i64 p),(2,.int .i64 d)]).run Tryz.prog w=.ok (.agg #[.int .i64 p,.bool false,.int .i64 d]) w:=run_build w _ _ _ (by kernel_rfl)
theorem zKH (p d:Int) (w:World):(Instr.build 90 #[(0,.int .i64 p),(1,.bool true),(2,.int .i64 d)]).run Tryz.prog w=.ok (.agg #[.int .i64 p,.bool true,.int .i64 d]) w:=run_build w _ _ _ (by kernel_rfl)
set_option maxHeartbeats 6400000 in
set_option maxRecDepth 100000 in
theorem zJv (w:World):Calls Tryz.prog 49 #[.int .i64 1] w fun e w'=>∃A c,e=.returned (frV A 10 c 6 4)∧Row w' w.heap.size 3 A 10 c (stdF.flatMap fgC)∧Below w.heap.size w w':=by
 have ah:Below w.heap.size w (w.alloc (.cells #[.slice none 0 0,.int .i64 0,.int .i64 0] 24)):=(Below.refl _ _).alloc (Nat.le_refl _) _;have hk0:Blk (w.alloc (.cells #[.slice none 0 0,.int .i64 0,.int .i64 0] 24)) w.heap.size 24 #[.slice none 0 0,.int .i64 0,.int .i64 0]:=Blk.new _ _ _;go_enter Tryz.func49,Tryz.ntmps49;go_upto_region 1 with fail
 generalize w.alloc (.cells #[.slice none 0 0,.int .i64 0,.int .i64 0] 24)=Y at ah hk0 ⊢;have ce:FbW Y (Y.alloc (.cells #[.slice none 0 0,.int .i64 6,.int .i64 4] 24)) Y.heap.size 6 4 none 0 0 (stdF.take 0):=⟨Row.none_ _ _ _,Blk.new _ _ _,fun q hq=>(by cases hq),(Below.refl _ _).alloc (Nat.le_refl _) _⟩;go_upto_region 2 with fail
 generalize hZ:Y.alloc (.cells #[.slice none 0 0,.int .i64 6,.int .i64 4] 24)=Z at ce ⊢;clear hZ;obtain ⟨oB,nE⟩:∃a,Y.heap.size=a:=⟨_,rfl⟩
 have sK:Y.heap.size≤oB:=by omega
 rw [nE];have ce:FbW Y Z oB 6 4 none 0 0 (stdF.take 0):=by rw [←nE];exact ce
 clear nE;go_wp2_with fail
 go_loopw [4] (fun v4 wv=>∃(i:Nat) (p:Int) (X:World) (A1:Option Addr) (c1:Nat),X=wv∧i≤1∧v4=.int .i64 p∧Hid (p=(i:Int)+1)∧FbW Y X oB 6 4 A1 (10*i) c1 (stdF.take (10*i))) (fun v4 _=>2-(intOf v4).toNat)
 case atStart=>exact ⟨0,1,_,none,0,rfl,by omega,rfl,qH rfl,ce⟩
 case round =>
  obtain ⟨i,p,X,A1,c1,hX,hi,rfl,HP,hW⟩:=hrel;subst hX;clear ce;by_cases hlt:i < 1
  ·obtain rfl:i=0:=by omega
   obtain rfl:p=1:=HP.out;clear HP;have ce:FbW Y X oB 6 4 A1 0 c1 (stdF.take 0):=hW;clear hW;go_wp2_with fail
   go_loopw [5] (fun v5 wv=>∃(j:Nat) (q:Int) (X:World) (A1:Option Addr) (c1:Nat),X=wv∧j≤5∧v5=.int .i64 q∧Hid (q=(j:Int)+1)∧FbW Y X oB 6 4 A1 j c1 (stdF.take j)) (fun v5 _=>6-(intOf v5).toNat)
   case atStart=>exact ⟨0,1,_,A1,c1,rfl,by omega,rfl,qH rfl,ce⟩
   case round =>
    obtain ⟨j,q,X,A1,c1,hX,hj,rfl,HQ,hW⟩:=hrel;subst hX;clear ce;by_cases hjt:j < 5
    ·have j1:q≤5:=by have:=HQ.out;omega
     have j2:0≤q:=by have:=HQ.out;omega
     have xW:=qH (show stdF.take j++[⟨1,false,q⟩]=stdF.take (j+1) by rw [HQ.out];exact zWo hjt);have o0:X.cell? ⟨oB,0,none⟩=some (.slice A1 j c1):=(hW.bk.cell 0).trans rfl;have bh:Y.heap.size≤X.heap.size:=hW.old.size;have xH:j+1≤1000000:=by omega
     go_upto_region 9 with (at_builtin;refine zEV ?_)
     refine qH ?_;refine zWn (base:=Y.heap.size) (A:=A1) (n:=j) (c:=c1) (L:=stdF.take j) rfl (.tmp 18) (.tmp 22) ?_ ?_ ⟨1,false,q⟩ ?_ X.heap.size rfl ?_ (j+1) rfl xH bh ?_
     ·rfl
     ·exact hW.own
     ·rfl
     ·rfl
     intro A2 c2 w9 fH cl hl9';obtain ⟨fU,eJ⟩:=hW.pushed sK fH cl hl9';have p1:w9.cell? ⟨oB,0,none⟩=some (.slice A1 j c1):=(fU.cell 0).trans rfl;have z1:=fU.frozen 0;rw [xW.out] at eJ;have pi:=qH eJ;clear hW fH cl hl9' eJ fU o0;go_wp2_with fail
     go_roundw
     case rel=>exact ⟨j+1,q+1,_,A2,c2,rfl,by omega,by go_num,qH (by rw [HQ.out];omega),pi.out⟩
     case measure=>simp [intOf];omega
    ·obtain rfl:j=5:=by omega
     obtain rfl:q=6:=HQ.out;clear HQ;have cS:FbW Y X oB 6 4 A1 (5+0) c1 (stdF.take (5+0)):=hW;clear hW;go_wp2_with fail
     go_loopw [6] (fun v6 wv=>∃(j:Nat) (X:World) (A1:Option Addr) (c1:Nat),X=wv∧j≤5∧v6=.int .i64 (5-(j:Int))∧FbW Y X oB 6 4 A1 (5+j) c1 (stdF.take (5+j))) (fun v6 _=>(intOf v6).toNat)
     case atStart=>exact ⟨0,_,A1,c1,rfl,by omega,by rfl,cS⟩
     case round =>
      obtain ⟨j,X,A1,c1,hX,hj,rfl,hW⟩:=hrel;subst hX;clear cS;by_cases hjt:j < 5
      ·have j1:(1:Int)≤5-(j:Int):=by omega
       have xW:=qH (zSp hjt);have o0:X.cell? ⟨oB,0,none⟩=some (.slice A1 (5+j) c1):=(hW.bk.cell 0).trans rfl;have bh:Y.heap.size≤X.heap.size:=hW.old.size;have xH:5+j+1≤1000000:=by omega
       go_upto_region 13 with (at_builtin;refine zEV ?_)
       refine qH ?_;refine zWn (base:=Y.heap.size) (A:=A1) (n:=5+j) (c:=c1) (L:=stdF.take (5+j)) rfl (.tmp 30) (.tmp 34) ?_ ?_ ⟨1,true,5-(j:Int)⟩ ?_ X.heap.size rfl ?_ (5+j+1) rfl xH bh ?_
       ·rfl
       ·exact hW.own
       ·rfl
       ·rfl
       intro A2 c2 w9 fH cl hl9';obtain ⟨fU,eJ⟩:=hW.pushed sK fH cl hl9';have p1:w9.cell? ⟨oB,0,none⟩=some (.slice A1 (5+j) c1):=(fU.cell 0).trans rfl;have z1:=fU.frozen 0;rw [xW.out] at eJ;have pi:=qH eJ;clear hW fH cl hl9' eJ fU o0;go_wp2_with fail
       go_roundw
       case rel=>exact ⟨j+1,_,A2,c2,rfl,by omega,by go_num,pi.out⟩
       case measure=>simp [intOf];omega
      ·obtain rfl:j=5:=by omega
       have vj:=qH (show FbW Y X oB 6 4 A1 (10*(0+1)) c1 (stdF.take (10*(0+1))) from hW);clear hW;go_wp2_with fail
       go_roundw
       case rel=>exact ⟨0+1,2,_,A1,c1,rfl,by omega,by go_num,qH rfl,vj.out⟩
       case measure=>simp [intOf]
  ·obtain rfl:i=1:=by omega
   obtain rfl:p=2:=HP.out;clear HP;have uI:w.heap.size < Y.heap.size:=hk0.lt;have ft:=hk0.below hW.old uI;have e0:X.cell? ⟨oB,0,none⟩=some (.slice A1 (10*1) c1):=(hW.bk.cell 0).trans rfl;have e1:X.cell? ⟨oB,1,none⟩=some (.int .i64 6):=(hW.bk.cell 1).trans rfl;have e2:X.cell? ⟨oB,2,none⟩=some (.int .i64 4):=(hW.bk.cell 2).trans rfl;obtain ⟨r0,r1,r2⟩:=cQ3 ft;have z0:=ft.frozen 0;have z1:=ft.frozen 1;have z2:=ft.frozen 2;have vp:=qH ft;have HW:=qH hW;have nD:=ah.size;clear hlt hW ft;go_wp2_with fail
   have hS:Blk (((X.setCell ⟨w.heap.size,0,none⟩ (.slice A1 (10*1) c1)).setCell ⟨w.heap.size,1,none⟩ (.int .i64 6)).setCell ⟨w.heap.size,2,none⟩ (.int .i64 4)) w.heap.size 24 #[.slice A1 (10*1) c1,.int .i64 6,.int .i64 4]:=((vp.out.set_ 0 _).set_ 1 _).set_ 2 _;have gS:=zAh (zAh (zAh (World.grownBy.refl X (some w.heap.size)) (p:=⟨w.heap.size,0,none⟩) (.inl rfl) (.slice A1 (10*1) c1)) (p:=⟨w.heap.size,1,none⟩) (.inl rfl) (.int .i64 6)) (p:=⟨w.heap.size,2,none⟩) (.inl rfl) (.int .i64 4);have gA:=(((zAa ah HW.out.old nD).setCell (p:=⟨w.heap.size,0,none⟩) (Nat.le_refl _) (.slice A1 (10*1) c1)).setCell (p:=⟨w.heap.size,1,none⟩) (Nat.le_refl _) (.int .i64 6)).setCell (p:=⟨w.heap.size,2,none⟩) (Nat.le_refl _) (.int .i64 4);have uK:Row (((X.setCell ⟨w.heap.size,0,none⟩ (.slice A1 (10*1) c1)).setCell ⟨w.heap.size,1,none⟩ (.int .i64 6)).setCell ⟨w.heap.size,2,none⟩ (.int .i64 4)) w.heap.size 3 A1 10 c1 (stdF.flatMap fgC):=by
    refine (HW.out.own.kept gS ?_).mono nD
    cases hb:blk A1 with
    | none=>exact .inl rfl
    | some q=>exact .inr (by have:=(HW.out.own.lt q hb).1;simp;omega)
   (try simp only [Exit.inBlock,Exit.then])
   refine zAu rfl rfl hS Tryz.underlying24 rfl (by kernel_rfl) rfl ?_;exact ⟨A1,c1,rfl,uK,gA⟩
end Go.Proofs.YtlmdfmnbcndhoaaGreatDoor
