/-
  Lemmas, part 7. Conditions: each theorem's own.
-/
import Derived.Test.YtlmdfmnbcndhoaaGreatDoorRc06
open Go.Value renaming bool→G,int→D,slice→H,string→W
open Go.IntKind renaming i64→J
open Option renaming none→U,some→Z
open Bool renaming false→E,true→Q
namespace Go.Proofs.YtlmdfmnbcndhoaaGreatDoor
open Go.RowKit
theorem zAS {a b T:List UInt8} (h:a++b=T) (x y:ByteArray) (hx:x=bA a) (hy:y=bA b) (ha:a.length≤1000000000) (hb:b.length≤1000000000):∀w,(Op.stringOp .add x y).run Tryz.prog w=.ok (W (bA T)) w:=fun w=>by
 subst h;subst hx;subst hy
 rw [run_string_add_sum w (bA a) (bA b) (by rw [zAP,zAP];omega),zKj]
def nmF (L:List Fg) (f:Int):List UInt8:=zAl (fa L (f-1).toNat)
def zBf (b:Bool):List UInt8:=if b then [111,118,101,114] else [117,110,100,101,114]
def zCA (b:Bool):List UInt8:=if b then [102,97,114] else [110,101,97,114]
def zCq (L:List Fg) (s:Sg):List UInt8 :=
 nmF L s.f++[32]++zCA s.far++(if s.l=0 then [] else [32,108,111,111,112,32]++Lib.itoa s.l)++(if s.pc=0 then [] else [32,112,105,101,99,101,32]++Lib.itoa s.pc)
def zBk (k:Int):List UInt8 :=
 if k=1 then [114,101,108,101,97,115,101] else if k=2 then [110,97,118,97,104,111] else if k=3 then [112,105,99,107] else if k=4 then [116,119,105,115,116]
 else if k=5 then [116,97,107,101] else if k=6 then [116,114,97,110,115,102,101,114] else if k=7 then [101,120,99,104,97,110,103,101] else if k=8 then [100,114,111,112] else []
theorem zFg (b:Bool):(zBf b).length≤5:=by cases b<;>simp [zBf]
theorem zKl (b:Bool):(zCA b).length≤4:=by cases b<;>simp [zCA]
theorem zKm (k:Int):(zBk k).length≤8:=by
 unfold zBk
 repeat (split;· decide)
 decide
theorem zIy (b:Bool) (w:World):Calls Tryz.prog 108 #[G b] w fun e w'=>e=.returned (W (bA (zBf b)))∧w'=w:=by
 cases b <;>
 ·go_enter Tryz.func108,Tryz.ntmps108;go_wp2_with fail
  go_ret;exact ⟨rfl,rfl⟩
theorem zNB (b:Bool) (w:World):Calls Tryz.prog 155 #[G b] w fun e w'=>e=.returned (W (bA (zCA b)))∧w'=w:=by
 cases b <;>
 ·go_enter Tryz.func155,Tryz.ntmps155;go_wp2_with fail
  go_ret;exact ⟨rfl,rfl⟩
set_option maxHeartbeats 3200000 in
set_option maxRecDepth 100000 in
theorem zCd (k:Int) (h0:0≤k) (h8:k≤8) (w:World):Calls Tryz.prog 106 #[D J k] w fun e w'=>e=.returned (W (bA (zBk k)))∧w'=w:=by
 have hk:k=0∨k=1∨k=2∨k=3∨k=4∨k=5∨k=6∨k=7∨k=8:=by omega
 clear h0 h8;have x0:∀w:World,(Instr.index 197 (.agg #[W ⟨#[]⟩,W ⟨#[114,101,108,101,97,115,101]⟩,W ⟨#[110,97,118,97,104,111]⟩,W ⟨#[112,105,99,107]⟩,W ⟨#[116,119,105,115,116]⟩,W ⟨#[116,97,107,101]⟩,W ⟨#[116,114,97,110,115,102,101,114]⟩,W ⟨#[101,120,99,104,97,110,103,101]⟩,W ⟨#[100,114,111,112]⟩]) (D J 0)).run Tryz.prog w=.ok (W ⟨#[]⟩) w:=fun _=>by kernel_rfl
 have x1:∀w:World,(Instr.index 197 (.agg #[W ⟨#[]⟩,W ⟨#[114,101,108,101,97,115,101]⟩,W ⟨#[110,97,118,97,104,111]⟩,W ⟨#[112,105,99,107]⟩,W ⟨#[116,119,105,115,116]⟩,W ⟨#[116,97,107,101]⟩,W ⟨#[116,114,97,110,115,102,101,114]⟩,W ⟨#[101,120,99,104,97,110,103,101]⟩,W ⟨#[100,114,111,112]⟩]) (D J 1)).run Tryz.prog w=.ok (W ⟨#[114,101,108,101,97,115,101]⟩) w:=fun _=>by kernel_rfl
 have x2:∀w:World,(Instr.index 197 (.agg #[W ⟨#[]⟩,W ⟨#[114,101,108,101,97,115,101]⟩,W ⟨#[110,97,118,97,104,111]⟩,W ⟨#[112,105,99,107]⟩,W ⟨#[116,119,105,115,116]⟩,W ⟨#[116,97,107,101]⟩,W ⟨#[116,114,97,110,115,102,101,114]⟩,W ⟨#[101,120,99,104,97,110,103,101]⟩,W ⟨#[100,114,111,112]⟩]) (D J 2)).run Tryz.prog w=.ok (W ⟨#[110,97,118,97,104,111]⟩) w:=fun _=>by kernel_rfl
 have x3:∀w:World,(Instr.index 197 (.agg #[W ⟨#[]⟩,W ⟨#[114,101,108,101,97,115,101]⟩,W ⟨#[110,97,118,97,104,111]⟩,W ⟨#[112,105,99,107]⟩,W ⟨#[116,119,105,115,116]⟩,W ⟨#[116,97,107,101]⟩,W ⟨#[116,114,97,110,115,102,101,114]⟩,W ⟨#[101,120,99,104,97,110,103,101]⟩,W ⟨#[100,114,111,112]⟩]) (D J 3)).run Tryz.prog w=.ok (W ⟨#[112,105,99,107]⟩) w:=fun _=>by kernel_rfl
 have x4:∀w:World,(Instr.index 197 (.agg #[W ⟨#[]⟩,W ⟨#[114,101,108,101,97,115,101]⟩,W ⟨#[110,97,118,97,104,111]⟩,W ⟨#[112,105,99,107]⟩,W ⟨#[116,119,105,115,116]⟩,W ⟨#[116,97,107,101]⟩,W ⟨#[116,114,97,110,115,102,101,114]⟩,W ⟨#[101,120,99,104,97,110,103,101]⟩,W ⟨#[100,114,111,112]⟩]) (D J 4)).run Tryz.prog w=.ok (W ⟨#[116,119,105,115,116]⟩) w:=fun _=>by kernel_rfl
 have x5:∀w:World,(Instr.index 197 (.agg #[W ⟨#[]⟩,W ⟨#[114,101,108,101,97,115,101]⟩,W ⟨#[110,97,118,97,104,111]⟩,W ⟨#[112,105,99,107]⟩,W ⟨#[116,119,105,115,116]⟩,W ⟨#[116,97,107,101]⟩,W ⟨#[116,114,97,110,115,102,101,114]⟩,W ⟨#[101,120,99,104,97,110,103,101]⟩,W ⟨#[100,114,111,112]⟩]) (D J 5)).run Tryz.prog w=.ok (W ⟨#[116,97,107,101]⟩) w:=fun _=>by kernel_rfl
 have x6:∀w:World,(Instr.index 197 (.agg #[W ⟨#[]⟩,W ⟨#[114,101,108,101,97,115,101]⟩,W ⟨#[110,97,118,97,104,111]⟩,W ⟨#[112,105,99,107]⟩,W ⟨#[116,119,105,115,116]⟩,W ⟨#[116,97,107,101]⟩,W ⟨#[116,114,97,110,115,102,101,114]⟩,W ⟨#[101,120,99,104,97,110,103,101]⟩,W ⟨#[100,114,111,112]⟩]) (D J 6)).run Tryz.prog w=.ok (W ⟨#[116,114,97,110,115,102,101,114]⟩) w:=fun _=>by kernel_rfl
 have x7:∀w:World,(Instr.index 197 (.agg #[W ⟨#[]⟩,W ⟨#[114,101,108,101,97,115,101]⟩,W ⟨#[110,97,118,97,104,111]⟩,W ⟨#[112,105,99,107]⟩,W ⟨#[116,119,105,115,116]⟩,W ⟨#[116,97,107,101]⟩,W ⟨#[116,114,97,110,115,102,101,114]⟩,W ⟨#[101,120,99,104,97,110,103,101]⟩,W ⟨#[100,114,111,112]⟩]) (D J 7)).run Tryz.prog w=.ok (W ⟨#[101,120,99,104,97,110,103,101]⟩) w:=fun _=>by kernel_rfl
 have x8:∀w:World,(Instr.index 197 (.agg #[W ⟨#[]⟩,W ⟨#[114,101,108,101,97,115,101]⟩,W ⟨#[110,97,118,97,104,111]⟩,W ⟨#[112,105,99,107]⟩,W ⟨#[116,119,105,115,116]⟩,W ⟨#[116,97,107,101]⟩,W ⟨#[116,114,97,110,115,102,101,114]⟩,W ⟨#[101,120,99,104,97,110,103,101]⟩,W ⟨#[100,114,111,112]⟩]) (D J 8)).run Tryz.prog w=.ok (W ⟨#[100,114,111,112]⟩) w:=fun _=>by kernel_rfl
 rcases hk with rfl | rfl | rfl | rfl | rfl | rfl | rfl | rfl | rfl
 all_goals
  go_enter Tryz.func106,Tryz.ntmps106;go_wp2_with fail
  go_ret;exact ⟨rfl,rfl⟩
set_option maxHeartbeats 800000 in
theorem zNC (A:Option Addr) (n c:Nat) (L:List Fg) (re lo:Int) (f:Int) (w:World) (hA:Fgs w A n L) (hv:frOk L re lo) (h1:1≤f) (h2:f≤(n:Int)) :
  Calls Tryz.prog 107 #[frV A n c re lo,D J f] w fun e w'=>e=.returned (W (bA (nmF L f)))∧Below w.heap.size w w':=by
 have hle:=hA.le;have aa:Below w.heap.size w (w.alloc (.cells #[H A n c,D J re,D J lo] 24)):=(Below.refl _ _).alloc (Nat.le_refl _) _;have hA0:=hA.alloc (.cells #[H A n c,D J re,D J lo] 24);obtain ⟨i,hi⟩:∃i:Nat,f=(i:Int)+1:=⟨(f-1).toNat,by omega⟩
 have hin:i < n:=by omega
 obtain ⟨g,o,rfl,hg,⟨x0,x1,x2⟩,_⟩:=hA0.at_ hin;have hth:=hv.there (i:=i) (by rw [hA.len];exact hin);have hnm:nmF L f=zAl (fa L i):=by unfold nmF;rw [hi,show ((i:Int)+1-1).toNat=i by omega]
 rw [hnm];have q0:IntKind.i64.wrap (f-1)=(i:Int):=by rw [hi,show (i:Int)+1-1=(i:Int) by omega];exact IntWalk.i64_in _ (by omega)
 have q1:wrap64 (f-1)=(i:Int):=by unfold wrap64;omega
 have q2:f-1=(i:Int):=by omega
 have j0:(0:Int)≤(i:Int):=by omega
 have j1:(i:Int) < (n:Int):=by omega
 generalize fa L i=x at x0 x1 x2 hth ⊢;have HN:=qH (zKk x hth (w.alloc (.cells #[H (Z ⟨g,o,U⟩) n c,D J re,D J lo] 24)));clear hi hnm hth hA0 hA hin h1 h2;go_enter Tryz.func107,Tryz.ntmps107;go_wp2_with fail
 refine HN.out.mono ?_;rintro e w2 ⟨rfl,ab⟩;have ac:=zAa aa ab aa.size;go_wp2_with fail
 go_ret;exact ⟨rfl,ac⟩
theorem zBH {L:List Fg} {re lo:Int} (hv:frOk L re lo) {f:Int} (h1:1≤f) (h2:f≤(L.length:Int)):(nmF L f).length≤43 :=
 zOX (zJa (hv.there (i:=(f-1).toNat) (by omega)))
theorem zPa {b:Bool} {S:List UInt8} (h:zCA b=S) (w:World):Calls Tryz.prog 155 #[G b] w fun e w'=>e=.returned (W (bA S))∧w'=w:=by
 subst h;exact zNB b w
theorem zHl {b:Bool} {S:List UInt8} (h:zBf b=S) (w:World):Calls Tryz.prog 108 #[G b] w fun e w'=>e=.returned (W (bA S))∧w'=w:=by
 subst h;exact zIy b w
theorem zDs {A:Option Addr} {n c:Nat} {L:List Fg} {re lo:Int} {f:Int} {S:List UInt8} (h:nmF L f=S) (w:World) (hA:Fgs w A n L) (hv:frOk L re lo) (h1:1≤f) (h2:f≤(n:Int)) :
  Calls Tryz.prog 107 #[frV A n c re lo,D J f] w fun e w'=>e=.returned (W (bA S))∧Below w.heap.size w w':=by
 subst h;exact zNC A n c L re lo f w hA hv h1 h2
set_option maxHeartbeats 3200000 in
set_option maxRecDepth 100000 in
theorem zLA (A:Option Addr) (n c:Nat) (L:List Fg) (re lo:Int) (s:Sg) (w:World) (hA:Fgs w A n L) (hv:frOk L re lo) (hs:zAR n s=Q) (ht:Tabs w) :
  Calls Tryz.prog 109 #[frV A n c re lo,sgV s] w fun e w'=>e=.returned (W (bA (zCq L s)))∧Below w.heap.size w w':=by
 obtain ⟨h1,h2,h3,h4,h5,h6⟩:=zAC.1 hs;have jr:=zBH hv h1 (by rw [hA.len];exact h2);have Bk:=zKl s.far;have Bq:=zBm (x:=s.l) ⟨by omega,by omega⟩;have Bp:=zBm (x:=s.pc) ⟨by omega,by omega⟩;obtain ⟨f,l,far,pc⟩:=s;simp only at h1 h2 h3 h4 h5 h6 jr Bk Bq Bp ⊢;have hf:zCq L ⟨f,l,far,pc⟩=nmF L f++[32]++zCA far++(if l=0 then [] else [32,108,111,111,112,32]++Lib.itoa l)++(if pc=0 then [] else [32,112,105,101,99,101,32]++Lib.itoa pc):=rfl;obtain ⟨NM,fc⟩:∃NM,nmF L f=NM:=⟨_,rfl⟩
 obtain ⟨SD,rN⟩:∃SD,zCA far=SD:=⟨_,rfl⟩
 obtain ⟨IL,zo⟩:∃IL,Lib.itoa l=IL:=⟨_,rfl⟩
 obtain ⟨IP,zl⟩:∃IP,Lib.itoa pc=IP:=⟨_,rfl⟩
 rw [fc,rN,zo,zl] at hf;rw [fc] at jr;rw [rN] at Bk;rw [zo] at Bq;rw [zl] at Bp;have HF:=qH hf;have aa:Below w.heap.size w ((w.alloc (.cells #[H A n c,D J re,D J lo] 24)).alloc (.cells #[D J f,D J l,G far,D J pc] 29)):=((Below.refl _ _).alloc (Nat.le_refl _) _).alloc (by simp) _;have hk0:=(Blk.new w 24 #[H A n c,D J re,D J lo]).alloc (.cells #[D J f,D J l,G far,D J pc] 29);have ag:Blk ((w.alloc (.cells #[H A n c,D J re,D J lo] 24)).alloc (.cells #[D J f,D J l,G far,D J pc] 29)) (w.heap.size+1) 29 #[D J f,D J l,G far,D J pc]:=heap_alloc2_new w _ _;obtain ⟨T0,tJ⟩:∃T,NM++[32]=T:=⟨_,rfl⟩
 obtain ⟨T1,dm⟩:∃T,T0++SD=T:=⟨_,rfl⟩
 obtain ⟨LP,zi⟩:∃T,[32,108,111,111,112,32]++IL=T:=⟨_,rfl⟩
 obtain ⟨PC,zh⟩:∃T,[32,112,105,101,99,101,32]++IP=T:=⟨_,rfl⟩
 obtain ⟨T2,gE⟩:∃T,T1++LP=T:=⟨_,rfl⟩
 obtain ⟨T3,uO⟩:∃T,T1++PC=T:=⟨_,rfl⟩
 obtain ⟨T4,uN⟩:∃T,T2++PC=T:=⟨_,rfl⟩
 have l0:T0.length≤44:=by rw [←tJ];simp;omega
 have l1:T1.length≤48:=by rw [←dm];simp;omega
 have lL:LP.length≤27:=by rw [←zi];simp;omega
 have lP:PC.length≤28:=by rw [←zh];simp;omega
 have l2:T2.length≤75:=by rw [←gE];simp;omega
 have s1:=zAS tJ (bA NM) ⟨#[32]⟩ rfl rfl (by omega) (by simp);have s2:=zAS dm _ _ rfl rfl (by omega) (by omega);have t1:=zAS zi ⟨#[32,108,111,111,112,32]⟩ _ rfl rfl (by simp) (by omega);have t2:=zAS gE _ _ rfl rfl (by omega) (by omega);have u1:=zAS zh ⟨#[32,112,105,101,99,101,32]⟩ _ rfl rfl (by simp) (by omega);have u2:=zAS uO _ _ rfl rfl (by omega) (by omega);have u3:=zAS uN _ _ rfl rfl (by omega) (by omega);have HT:=qH (show T1=NM++[32]++SD∧T2=T1++LP∧T3=T1++PC∧T4=T2++PC∧LP=[32,108,111,111,112,32]++IL∧PC=[32,112,105,101,99,101,32]++IP from ⟨by rw [←dm,←tJ],gE.symm,uO.symm,uN.symm,zi.symm,zh.symm⟩);clear tJ dm gE uO uN zi zh l0 l1 lL lP l2;have mO:=qH fc;have u9:=qH rN;have oM:=qH (show ∀w,Tabs w→Calls Tryz.prog 124 #[D J l] w fun e w'=>e=.returned (W (bA IL))∧Below w.heap.size w w' from fun w ht=>by rw [←zo];exact zIZ l ⟨by omega,by omega⟩ w ht);have Aa:=qH (show ∀w,Tabs w→Calls Tryz.prog 124 #[D J pc] w fun e w'=>e=.returned (W (bA IP))∧Below w.heap.size w w' from fun w ht=>by rw [←zl];exact zIZ pc ⟨by omega,by omega⟩ w ht);have yG:=qH (show 1≤f∧f≤(n:Int) from ⟨h1,h2⟩);clear hf fc rN zo zl jr Bk Bq Bp h1 h2 h3 h4 h5 h6 hs;go_enter Tryz.func109,Tryz.ntmps109;go_wp2_with fail
 have hA0:=hA.below aa;have uG:=ht.below aa;generalize (w.alloc (.cells #[H A n c,D J re,D J lo] 24)).alloc (.cells #[D J f,D J l,G far,D J pc] 29)=ZR at aa hk0 ag hA0 uG ⊢
 have KP:=qH (show ∀wx,Below ZR.heap.size ZR wx→(Below ZR.heap.size ZR wx∧wx.cell? ⟨w.heap.size,0,U⟩=Z (H A n c)∧wx.cell? ⟨w.heap.size,1,U⟩=Z (D J re)∧wx.cell? ⟨w.heap.size,2,U⟩=Z (D J lo)∧wx.cell? ⟨w.heap.size+1,0,U⟩=Z (D J f)∧wx.cell? ⟨w.heap.size+1,1,U⟩=Z (D J l)∧wx.cell? ⟨w.heap.size+1,2,U⟩=Z (G far)∧wx.cell? ⟨w.heap.size+1,3,U⟩=Z (D J pc)) from
  fun wx h=>⟨h,((hk0.below h hk0.lt).cell 0).trans rfl,((hk0.below h hk0.lt).cell 1).trans rfl,((hk0.below h hk0.lt).cell 2).trans rfl,((ag.below h ag.lt).cell 0).trans rfl,((ag.below h ag.lt).cell 1).trans rfl,((ag.below h ag.lt).cell 2).trans rfl,((ag.below h ag.lt).cell 3).trans rfl⟩)
 first
  | go_region_held3 (fun wx=>Below ZR.heap.size ZR wx∧wx.cell? ⟨w.heap.size,0,U⟩=Z (H A n c)∧wx.cell? ⟨w.heap.size,1,U⟩=Z (D J re)∧wx.cell? ⟨w.heap.size,2,U⟩=Z (D J lo)∧wx.cell? ⟨w.heap.size+1,0,U⟩=Z (D J f)∧wx.cell? ⟨w.heap.size+1,1,U⟩=Z (D J l)∧wx.cell? ⟨w.heap.size+1,2,U⟩=Z (G far)∧wx.cell? ⟨w.heap.size+1,3,U⟩=Z (D J pc)) (first | assumption | exact KP.out _ (Below.refl _ _).drew | exact KP.out _ (zAa (And.left (by assumption)) (by assumption) (Below.size (And.left (by assumption)))))
    (first
     | (go_at_call 107;refine (zDs mO.out _ (hA0.below (And.left (by assumption))) hv yG.out.1 yG.out.2).mono ?_;rintro e wa ⟨rfl,hba⟩)
     | (go_at_call 155;refine (zPa u9.out _).mono ?_;rintro e wc ⟨rfl,rfl⟩))
  | fail
 all_goals
  obtain ⟨hbx,x0,x1,x2,y0,y1,y2,y3⟩:=(show Below ZR.heap.size ZR _∧_ from by assumption);have ab:=zAa aa hbx aa.size;have htx:=uG.below hbx;have hkx:=ag.below hbx ag.lt;clear x0 x1 x2 y0 y2;by_cases ql:l=0
  ·have q0:(l != 0)=E:=by simp [ql]
   by_cases qp:pc=0
   ·have q1:(pc != 0)=E:=by simp [qp]
    have HR:=qH (show bA T1=bA (zCq L ⟨f,l,far,pc⟩) by rw [HF.out,HT.out.1,if_pos ql,if_pos qp,List.append_nil,List.append_nil]);clear ql qp;go_wp2_with fail
    go_ret;exact ⟨zGD HR.out,ab⟩
   ·have q1:(pc != 0)=Q:=by simpa using qp
    have HR:=qH (show bA T3=bA (zCq L ⟨f,l,far,pc⟩) by rw [HF.out,HT.out.2.2.1,HT.out.1,HT.out.2.2.2.2.2,if_pos ql,if_neg qp,List.append_nil]);clear ql qp;go_wp2_with fail
    refine (Aa.out _ htx).mono ?_;rintro e w5 ⟨rfl,ai⟩;have ao:=zAa ab ai ab.size;clear y1 y3;go_wp2_with fail
    go_ret;exact ⟨zGD HR.out,ao⟩
  ·have q0:(l != 0)=Q:=by simpa using ql
   by_cases qp:pc=0
   ·have q1:(pc != 0)=E:=by simp [qp]
    have HR:=qH (show bA T2=bA (zCq L ⟨f,l,far,pc⟩) by rw [HF.out,HT.out.2.1,HT.out.1,HT.out.2.2.2.2.1,if_neg ql,if_pos qp,List.append_nil]);clear ql qp;go_wp2_with fail
    refine (oM.out _ htx).mono ?_;rintro e w5 ⟨rfl,ai⟩;have ao:=zAa ab ai ab.size;have k3:w5.cell? ⟨w.heap.size+1,3,U⟩=Z (D J pc):=((hkx.below ai hkx.lt).cell 3).trans rfl;clear y1 y3;go_wp2_with fail
    go_ret;exact ⟨zGD HR.out,ao⟩
   ·have q1:(pc != 0)=Q:=by simpa using qp
    have HR:=qH (show bA T4=bA (zCq L ⟨f,l,far,pc⟩) by rw [HF.out,HT.out.2.2.2.1,HT.out.2.1,HT.out.1,HT.out.2.2.2.2.1,HT.out.2.2.2.2.2,if_neg ql,if_neg qp]);clear ql qp;go_wp2_with fail
    refine (oM.out _ htx).mono ?_;rintro e w5 ⟨rfl,ai⟩;have ao:=zAa ab ai ab.size;have k3:w5.cell? ⟨w.heap.size+1,3,U⟩=Z (D J pc):=((hkx.below ai hkx.lt).cell 3).trans rfl;have ht5:=htx.below ai;clear y1 y3;go_wp2_with fail
    refine (Aa.out _ ht5).mono ?_;rintro e w7 ⟨rfl,bE⟩;have bg:=zAa ao bE ao.size;clear k3;go_wp2_with fail
    go_ret;exact ⟨zGD HR.out,bg⟩
end Go.Proofs.YtlmdfmnbcndhoaaGreatDoor
