/-
  Lemmas, part 6. Conditions: each theorem's own.
-/
import Derived.Test.YtlmdfmnbcndhoaaGreatDoorRl05
namespace Go.Proofs.YtlmdfmnbcndhoaaGreatDoor
open Go.RowKit
theorem zAp {a b T:List UInt8} (h:a++b=T) (x y:ByteArray) (hx:x=bA a) (hy:y=bA b) (ha:a.length≤1000000000) (hb:b.length≤1000000000):∀w,(Op.stringOp .add x y).run Tryz.prog w=.ok (.string (bA T)) w:=fun w=>by
 subst h;subst hx;subst hy
 rw [run_string_add_sum w (bA a) (bA b) (by rw [zAL,zAL];omega),zJQ]
def nmF (L:List Fg) (f:Int):List UInt8:=zAi (fa L (f-1).toNat)
def zAw (b:Bool):List UInt8:=if b then [111,118,101,114] else [117,110,100,101,114]
def zBx (b:Bool):List UInt8:=if b then [102,97,114] else [110,101,97,114]
def zAJ (L:List Fg) (s:Sg):List UInt8 :=
 nmF L s.f++[32]++zBx s.far++(if s.l=0 then [] else [32,108,111,111,112,32]++Lib.itoa s.l)++(if s.pc=0 then [] else [32,112,105,101,99,101,32]++Lib.itoa s.pc)
def zAs (k:Int):List UInt8 :=
 if k=1 then [114,101,108,101,97,115,101] else if k=2 then [110,97,118,97,104,111] else if k=3 then [112,105,99,107] else if k=4 then [116,119,105,115,116]
 else if k=5 then [116,97,107,101] else if k=6 then [116,114,97,110,115,102,101,114] else if k=7 then [101,120,99,104,97,110,103,101] else if k=8 then [100,114,111,112] else []
theorem zEA (b:Bool):(zAw b).length≤5:=by cases b<;>simp [zAw]
theorem zGN (b:Bool):(zBx b).length≤4:=by cases b<;>simp [zBx]
theorem zJU (k:Int):(zAs k).length≤8:=by
 unfold zAs
 repeat (split;· decide)
 decide
theorem zHZ (b:Bool) (w:World):Calls Tryz.prog 108 #[.bool b] w fun e w'=>e=.returned (.string (bA (zAw b)))∧w'=w:=by
 cases b <;>
 ·go_enter Tryz.func108,Tryz.ntmps108;go_wp2_with fail
  go_ret;exact ⟨rfl,rfl⟩
theorem zNr (b:Bool) (w:World):Calls Tryz.prog 155 #[.bool b] w fun e w'=>e=.returned (.string (bA (zBx b)))∧w'=w:=by
 cases b <;>
 ·go_enter Tryz.func155,Tryz.ntmps155;go_wp2_with fail
  go_ret;exact ⟨rfl,rfl⟩
set_option maxHeartbeats 3200000 in
set_option maxRecDepth 100000 in
theorem zBL (k:Int) (h0:0≤k) (h8:k≤8) (w:World):Calls Tryz.prog 106 #[.int .i64 k] w fun e w'=>e=.returned (.string (bA (zAs k)))∧w'=w:=by
 have hk:k=0∨k=1∨k=2∨k=3∨k=4∨k=5∨k=6∨k=7∨k=8:=by omega
 clear h0 h8;have x0:∀w:World,(Instr.index 197 (.agg #[.string ⟨#[]⟩,.string ⟨#[114,101,108,101,97,115,101]⟩,.string ⟨#[110,97,118,97,104,111]⟩,.string ⟨#[112,105,99,107]⟩,.string ⟨#[116,119,105,115,116]⟩,.string ⟨#[116,97,107,101]⟩,.string ⟨#[116,114,97,110,115,102,101,114]⟩,.string ⟨#[101,120,99,104,97,110,103,101]⟩,.string ⟨#[100,114,111,112]⟩]) (.int .i64 0)).run Tryz.prog w=.ok (.string ⟨#[]⟩) w:=fun _=>by kernel_rfl
 have x1:∀w:World,(Instr.index 197 (.agg #[.string ⟨#[]⟩,.string ⟨#[114,101,108,101,97,115,101]⟩,.string ⟨#[110,97,118,97,104,111]⟩,.string ⟨#[112,105,99,107]⟩,.string ⟨#[116,119,105,115,116]⟩,.string ⟨#[116,97,107,101]⟩,.string ⟨#[116,114,97,110,115,102,101,114]⟩,.string ⟨#[101,120,99,104,97,110,103,101]⟩,.string ⟨#[100,114,111,112]⟩]) (.int .i64 1)).run Tryz.prog w=.ok (.string ⟨#[114,101,108,101,97,115,101]⟩) w:=fun _=>by kernel_rfl
 have x2:∀w:World,(Instr.index 197 (.agg #[.string ⟨#[]⟩,.string ⟨#[114,101,108,101,97,115,101]⟩,.string ⟨#[110,97,118,97,104,111]⟩,.string ⟨#[112,105,99,107]⟩,.string ⟨#[116,119,105,115,116]⟩,.string ⟨#[116,97,107,101]⟩,.string ⟨#[116,114,97,110,115,102,101,114]⟩,.string ⟨#[101,120,99,104,97,110,103,101]⟩,.string ⟨#[100,114,111,112]⟩]) (.int .i64 2)).run Tryz.prog w=.ok (.string ⟨#[110,97,118,97,104,111]⟩) w:=fun _=>by kernel_rfl
 have x3:∀w:World,(Instr.index 197 (.agg #[.string ⟨#[]⟩,.string ⟨#[114,101,108,101,97,115,101]⟩,.string ⟨#[110,97,118,97,104,111]⟩,.string ⟨#[112,105,99,107]⟩,.string ⟨#[116,119,105,115,116]⟩,.string ⟨#[116,97,107,101]⟩,.string ⟨#[116,114,97,110,115,102,101,114]⟩,.string ⟨#[101,120,99,104,97,110,103,101]⟩,.string ⟨#[100,114,111,112]⟩]) (.int .i64 3)).run Tryz.prog w=.ok (.string ⟨#[112,105,99,107]⟩) w:=fun _=>by kernel_rfl
 have x4:∀w:World,(Instr.index 197 (.agg #[.string ⟨#[]⟩,.string ⟨#[114,101,108,101,97,115,101]⟩,.string ⟨#[110,97,118,97,104,111]⟩,.string ⟨#[112,105,99,107]⟩,.string ⟨#[116,119,105,115,116]⟩,.string ⟨#[116,97,107,101]⟩,.string ⟨#[116,114,97,110,115,102,101,114]⟩,.string ⟨#[101,120,99,104,97,110,103,101]⟩,.string ⟨#[100,114,111,112]⟩]) (.int .i64 4)).run Tryz.prog w=.ok (.string ⟨#[116,119,105,115,116]⟩) w:=fun _=>by kernel_rfl
 have x5:∀w:World,(Instr.index 197 (.agg #[.string ⟨#[]⟩,.string ⟨#[114,101,108,101,97,115,101]⟩,.string ⟨#[110,97,118,97,104,111]⟩,.string ⟨#[112,105,99,107]⟩,.string ⟨#[116,119,105,115,116]⟩,.string ⟨#[116,97,107,101]⟩,.string ⟨#[116,114,97,110,115,102,101,114]⟩,.string ⟨#[101,120,99,104,97,110,103,101]⟩,.string ⟨#[100,114,111,112]⟩]) (.int .i64 5)).run Tryz.prog w=.ok (.string ⟨#[116,97,107,101]⟩) w:=fun _=>by kernel_rfl
 have x6:∀w:World,(Instr.index 197 (.agg #[.string ⟨#[]⟩,.string ⟨#[114,101,108,101,97,115,101]⟩,.string ⟨#[110,97,118,97,104,111]⟩,.string ⟨#[112,105,99,107]⟩,.string ⟨#[116,119,105,115,116]⟩,.string ⟨#[116,97,107,101]⟩,.string ⟨#[116,114,97,110,115,102,101,114]⟩,.string ⟨#[101,120,99,104,97,110,103,101]⟩,.string ⟨#[100,114,111,112]⟩]) (.int .i64 6)).run Tryz.prog w=.ok (.string ⟨#[116,114,97,110,115,102,101,114]⟩) w:=fun _=>by kernel_rfl
 have x7:∀w:World,(Instr.index 197 (.agg #[.string ⟨#[]⟩,.string ⟨#[114,101,108,101,97,115,101]⟩,.string ⟨#[110,97,118,97,104,111]⟩,.string ⟨#[112,105,99,107]⟩,.string ⟨#[116,119,105,115,116]⟩,.string ⟨#[116,97,107,101]⟩,.string ⟨#[116,114,97,110,115,102,101,114]⟩,.string ⟨#[101,120,99,104,97,110,103,101]⟩,.string ⟨#[100,114,111,112]⟩]) (.int .i64 7)).run Tryz.prog w=.ok (.string ⟨#[101,120,99,104,97,110,103,101]⟩) w:=fun _=>by kernel_rfl
 have x8:∀w:World,(Instr.index 197 (.agg #[.string ⟨#[]⟩,.string ⟨#[114,101,108,101,97,115,101]⟩,.string ⟨#[110,97,118,97,104,111]⟩,.string ⟨#[112,105,99,107]⟩,.string ⟨#[116,119,105,115,116]⟩,.string ⟨#[116,97,107,101]⟩,.string ⟨#[116,114,97,110,115,102,101,114]⟩,.string ⟨#[101,120,99,104,97,110,103,101]⟩,.string ⟨#[100,114,111,112]⟩]) (.int .i64 8)).run Tryz.prog w=.ok (.string ⟨#[100,114,111,112]⟩) w:=fun _=>by kernel_rfl
 rcases hk with rfl | rfl | rfl | rfl | rfl | rfl | rfl | rfl | rfl
 all_goals
  go_enter Tryz.func106,Tryz.ntmps106;go_wp2_with fail
  go_ret;exact ⟨rfl,rfl⟩
set_option maxHeartbeats 800000 in
theorem zNs (A:Option Addr) (n c:Nat) (L:List Fg) (re lo:Int) (f:Int) (w:World) (hA:Fgs w A n L) (hv:frOk L re lo) (h1:1≤f) (h2:f≤(n:Int)) :
  Calls Tryz.prog 107 #[frV A n c re lo,.int .i64 f] w fun e w'=>e=.returned (.string (bA (nmF L f)))∧Below w.heap.size w w':=by
 have hle:=hA.le;have ah:Below w.heap.size w (w.alloc (.cells #[.slice A n c,.int .i64 re,.int .i64 lo] 24)):=(Below.refl _ _).alloc (Nat.le_refl _) _;have hA0:=hA.alloc (.cells #[.slice A n c,.int .i64 re,.int .i64 lo] 24);obtain ⟨i,hi⟩:∃i:Nat,f=(i:Int)+1:=⟨(f-1).toNat,by omega⟩
 have hin:i < n:=by omega
 obtain ⟨g,o,rfl,hg,⟨x0,x1,x2⟩,_⟩:=hA0.at_ hin;have hth:=hv.there (i:=i) (by rw [hA.len];exact hin);have hnm:nmF L f=zAi (fa L i):=by unfold nmF;rw [hi,show ((i:Int)+1-1).toNat=i by omega]
 rw [hnm];have q0:IntKind.i64.wrap (f-1)=(i:Int):=by rw [hi,show (i:Int)+1-1=(i:Int) by omega];exact IntWalk.i64_in _ (by omega)
 have q1:wrap64 (f-1)=(i:Int):=by unfold wrap64;omega
 have q2:f-1=(i:Int):=by omega
 have j0:(0:Int)≤(i:Int):=by omega
 have j1:(i:Int) < (n:Int):=by omega
 generalize fa L i=x at x0 x1 x2 hth ⊢;have HN:=qH (zJS x hth (w.alloc (.cells #[.slice (some ⟨g,o,none⟩) n c,.int .i64 re,.int .i64 lo] 24)));clear hi hnm hth hA0 hA hin h1 h2;go_enter Tryz.func107,Tryz.ntmps107;go_wp2_with fail
 refine HN.out.mono ?_;rintro e w2 ⟨rfl,ai⟩;have al:=zAa ah ai ah.size;go_wp2_with fail
 go_ret;exact ⟨rfl,al⟩
theorem zBr {L:List Fg} {re lo:Int} (hv:frOk L re lo) {f:Int} (h1:1≤f) (h2:f≤(L.length:Int)):(nmF L f).length≤43 :=
 zJR (zGr (hv.there (i:=(f-1).toNat) (by omega)))
theorem zOK {b:Bool} {S:List UInt8} (h:zBx b=S) (w:World):Calls Tryz.prog 155 #[.bool b] w fun e w'=>e=.returned (.string (bA S))∧w'=w:=by
 subst h;exact zNr b w
theorem zGO {b:Bool} {S:List UInt8} (h:zAw b=S) (w:World):Calls Tryz.prog 108 #[.bool b] w fun e w'=>e=.returned (.string (bA S))∧w'=w:=by
 subst h;exact zHZ b w
theorem zCY {A:Option Addr} {n c:Nat} {L:List Fg} {re lo:Int} {f:Int} {S:List UInt8} (h:nmF L f=S) (w:World) (hA:Fgs w A n L) (hv:frOk L re lo) (h1:1≤f) (h2:f≤(n:Int)) :
  Calls Tryz.prog 107 #[frV A n c re lo,.int .i64 f] w fun e w'=>e=.returned (.string (bA S))∧Below w.heap.size w w':=by
 subst h;exact zNs A n c L re lo f w hA hv h1 h2
set_option maxHeartbeats 3200000 in
set_option maxRecDepth 100000 in
theorem zLg (A:Option Addr) (n c:Nat) (L:List Fg) (re lo:Int) (s:Sg) (w:World) (hA:Fgs w A n L) (hv:frOk L re lo) (hs:zAm n s=true) (ht:Tabs w) :
  Calls Tryz.prog 109 #[frV A n c re lo,sgV s] w fun e w'=>e=.returned (.string (bA (zAJ L s)))∧Below w.heap.size w w':=by
 obtain ⟨h1,h2,h3,h4,h5,h6⟩:=zAj.1 hs;have gz:=zBr hv h1 (by rw [hA.len];exact h2);have vI:=zGN s.far;have uf:=zAM (x:=s.l) ⟨by omega,by omega⟩;have ue:=zAM (x:=s.pc) ⟨by omega,by omega⟩;obtain ⟨f,l,far,pc⟩:=s;simp only at h1 h2 h3 h4 h5 h6 gz vI uf ue ⊢;have hf:zAJ L ⟨f,l,far,pc⟩=nmF L f++[32]++zBx far++(if l=0 then [] else [32,108,111,111,112,32]++Lib.itoa l)++(if pc=0 then [] else [32,112,105,101,99,101,32]++Lib.itoa pc):=rfl;obtain ⟨NM,ey⟩:∃NM,nmF L f=NM:=⟨_,rfl⟩
 obtain ⟨SD,ng⟩:∃SD,zBx far=SD:=⟨_,rfl⟩
 obtain ⟨IL,qg⟩:∃IL,Lib.itoa l=IL:=⟨_,rfl⟩
 obtain ⟨IP,qf⟩:∃IP,Lib.itoa pc=IP:=⟨_,rfl⟩
 rw [ey,ng,qg,qf] at hf;rw [ey] at gz;rw [ng] at vI;rw [qg] at uf;rw [qf] at ue;have HF:=qH hf;have ah:Below w.heap.size w ((w.alloc (.cells #[.slice A n c,.int .i64 re,.int .i64 lo] 24)).alloc (.cells #[.int .i64 f,.int .i64 l,.bool far,.int .i64 pc] 29)):=((Below.refl _ _).alloc (Nat.le_refl _) _).alloc (by simp) _;have hk0:=(Blk.new w 24 #[.slice A n c,.int .i64 re,.int .i64 lo]).alloc (.cells #[.int .i64 f,.int .i64 l,.bool far,.int .i64 pc] 29);have aq:Blk ((w.alloc (.cells #[.slice A n c,.int .i64 re,.int .i64 lo] 24)).alloc (.cells #[.int .i64 f,.int .i64 l,.bool far,.int .i64 pc] 29)) (w.heap.size+1) 29 #[.int .i64 f,.int .i64 l,.bool far,.int .i64 pc]:=heap_alloc2_new w _ _;obtain ⟨T0,Af⟩:∃T,NM++[32]=T:=⟨_,rfl⟩
 obtain ⟨T1,cD⟩:∃T,T0++SD=T:=⟨_,rfl⟩
 obtain ⟨LP,Ah⟩:∃T,[32,108,111,111,112,32]++IL=T:=⟨_,rfl⟩
 obtain ⟨PC,Ag⟩:∃T,[32,112,105,101,99,101,32]++IP=T:=⟨_,rfl⟩
 obtain ⟨T2,gn⟩:∃T,T1++LP=T:=⟨_,rfl⟩
 obtain ⟨T3,pD⟩:∃T,T1++PC=T:=⟨_,rfl⟩
 obtain ⟨T4,pC⟩:∃T,T2++PC=T:=⟨_,rfl⟩
 have l0:T0.length≤44:=by rw [←Af];simp;omega
 have l1:T1.length≤48:=by rw [←cD];simp;omega
 have lL:LP.length≤27:=by rw [←Ah];simp;omega
 have lP:PC.length≤28:=by rw [←Ag];simp;omega
 have l2:T2.length≤75:=by rw [←gn];simp;omega
 have s1:=zAp Af (bA NM) ⟨#[32]⟩ rfl rfl (by omega) (by simp);have s2:=zAp cD _ _ rfl rfl (by omega) (by omega);have t1:=zAp Ah ⟨#[32,108,111,111,112,32]⟩ _ rfl rfl (by simp) (by omega);have t2:=zAp gn _ _ rfl rfl (by omega) (by omega);have u1:=zAp Ag ⟨#[32,112,105,101,99,101,32]⟩ _ rfl rfl (by simp) (by omega);have u2:=zAp pD _ _ rfl rfl (by omega) (by omega);have u3:=zAp pC _ _ rfl rfl (by omega) (by omega);have HT:=qH (show T1=NM++[32]++SD∧T2=T1++LP∧T3=T1++PC∧T4=T2++PC∧LP=[32,108,111,111,112,32]++IL∧PC=[32,112,105,101,99,101,32]++IP from ⟨by rw [←cD,←Af],gn.symm,pD.symm,pC.symm,Ah.symm,Ag.symm⟩);clear Af cD gn pD pC Ah Ag l0 l1 lL lP l2;have jz:=qH ey;have Dn:=qH ng;have nz:=qH (show ∀w,Tabs w→Calls Tryz.prog 124 #[.int .i64 l] w fun e w'=>e=.returned (.string (bA IL))∧Below w.heap.size w w' from fun w ht=>by rw [←qg];exact zIA l ⟨by omega,by omega⟩ w ht);have vx:=qH (show ∀w,Tabs w→Calls Tryz.prog 124 #[.int .i64 pc] w fun e w'=>e=.returned (.string (bA IP))∧Below w.heap.size w w' from fun w ht=>by rw [←qf];exact zIA pc ⟨by omega,by omega⟩ w ht);have tw:=qH (show 1≤f∧f≤(n:Int) from ⟨h1,h2⟩);clear hf ey ng qg qf gz vI uf ue h1 h2 h3 h4 h5 h6 hs;go_enter Tryz.func109,Tryz.ntmps109;go_wp2_with fail
 have hA0:=hA.below ah;have vG:=ht.below ah;generalize (w.alloc (.cells #[.slice A n c,.int .i64 re,.int .i64 lo] 24)).alloc (.cells #[.int .i64 f,.int .i64 l,.bool far,.int .i64 pc] 29)=W at ah hk0 aq hA0 vG ⊢
 have KP:=qH (show ∀wx,Below W.heap.size W wx→(Below W.heap.size W wx∧wx.cell? ⟨w.heap.size,0,none⟩=some (.slice A n c)∧wx.cell? ⟨w.heap.size,1,none⟩=some (.int .i64 re)∧wx.cell? ⟨w.heap.size,2,none⟩=some (.int .i64 lo)∧wx.cell? ⟨w.heap.size+1,0,none⟩=some (.int .i64 f)∧wx.cell? ⟨w.heap.size+1,1,none⟩=some (.int .i64 l)∧wx.cell? ⟨w.heap.size+1,2,none⟩=some (.bool far)∧wx.cell? ⟨w.heap.size+1,3,none⟩=some (.int .i64 pc)) from
  fun wx h=>⟨h,((hk0.below h hk0.lt).cell 0).trans rfl,((hk0.below h hk0.lt).cell 1).trans rfl,((hk0.below h hk0.lt).cell 2).trans rfl,((aq.below h aq.lt).cell 0).trans rfl,((aq.below h aq.lt).cell 1).trans rfl,((aq.below h aq.lt).cell 2).trans rfl,((aq.below h aq.lt).cell 3).trans rfl⟩)
 first
  | go_region_held3 (fun wx=>Below W.heap.size W wx∧wx.cell? ⟨w.heap.size,0,none⟩=some (.slice A n c)∧wx.cell? ⟨w.heap.size,1,none⟩=some (.int .i64 re)∧wx.cell? ⟨w.heap.size,2,none⟩=some (.int .i64 lo)∧wx.cell? ⟨w.heap.size+1,0,none⟩=some (.int .i64 f)∧wx.cell? ⟨w.heap.size+1,1,none⟩=some (.int .i64 l)∧wx.cell? ⟨w.heap.size+1,2,none⟩=some (.bool far)∧wx.cell? ⟨w.heap.size+1,3,none⟩=some (.int .i64 pc)) (first | assumption | exact KP.out _ (Below.refl _ _).drew | exact KP.out _ (zAa (And.left (by assumption)) (by assumption) (Below.size (And.left (by assumption)))))
    (first
     | (go_at_call 107;refine (zCY jz.out _ (hA0.below (And.left (by assumption))) hv tw.out.1 tw.out.2).mono ?_;rintro e wa ⟨rfl,hba⟩)
     | (go_at_call 155;refine (zOK Dn.out _).mono ?_;rintro e wc ⟨rfl,rfl⟩))
  | fail
 all_goals
  obtain ⟨hbx,x0,x1,x2,y0,y1,y2,y3⟩:=(show Below W.heap.size W _∧_ from by assumption);have ai:=zAa ah hbx ah.size;have htx:=vG.below hbx;have hkx:=aq.below hbx aq.lt;clear x0 x1 x2 y0 y2;by_cases ql:l=0
  ·have q0:(l != 0)=false:=by simp [ql]
   by_cases qp:pc=0
   ·have q1:(pc != 0)=false:=by simp [qp]
    have HR:=qH (show bA T1=bA (zAJ L ⟨f,l,far,pc⟩) by rw [HF.out,HT.out.1,if_pos ql,if_pos qp,List.append_nil,List.append_nil]);clear ql qp;go_wp2_with fail
    go_ret;exact ⟨zDl HR.out,ai⟩
   ·have q1:(pc != 0)=true:=by simpa using qp
    have HR:=qH (show bA T3=bA (zAJ L ⟨f,l,far,pc⟩) by rw [HF.out,HT.out.2.2.1,HT.out.1,HT.out.2.2.2.2.2,if_pos ql,if_neg qp,List.append_nil]);clear ql qp;go_wp2_with fail
    refine (vx.out _ htx).mono ?_;rintro e w5 ⟨rfl,aw⟩;have aH:=zAa ai aw ai.size;clear y1 y3;go_wp2_with fail
    go_ret;exact ⟨zDl HR.out,aH⟩
  ·have q0:(l != 0)=true:=by simpa using ql
   by_cases qp:pc=0
   ·have q1:(pc != 0)=false:=by simp [qp]
    have HR:=qH (show bA T2=bA (zAJ L ⟨f,l,far,pc⟩) by rw [HF.out,HT.out.2.1,HT.out.1,HT.out.2.2.2.2.1,if_neg ql,if_pos qp,List.append_nil]);clear ql qp;go_wp2_with fail
    refine (nz.out _ htx).mono ?_;rintro e w5 ⟨rfl,aw⟩;have aH:=zAa ai aw ai.size;have k3:w5.cell? ⟨w.heap.size+1,3,none⟩=some (.int .i64 pc):=((hkx.below aw hkx.lt).cell 3).trans rfl;clear y1 y3;go_wp2_with fail
    go_ret;exact ⟨zDl HR.out,aH⟩
   ·have q1:(pc != 0)=true:=by simpa using qp
    have HR:=qH (show bA T4=bA (zAJ L ⟨f,l,far,pc⟩) by rw [HF.out,HT.out.2.2.2.1,HT.out.2.1,HT.out.1,HT.out.2.2.2.2.1,HT.out.2.2.2.2.2,if_neg ql,if_neg qp]);clear ql qp;go_wp2_with fail
    refine (nz.out _ htx).mono ?_;rintro e w5 ⟨rfl,aw⟩;have aH:=zAa ai aw ai.size;have k3:w5.cell? ⟨w.heap.size+1,3,none⟩=some (.int .i64 pc):=((hkx.below aw hkx.lt).cell 3).trans rfl;have ht5:=htx.below aw;clear y1 y3;go_wp2_with fail
    refine (vx.out _ ht5).mono ?_;rintro e w7 ⟨rfl,cI⟩;have cm:=zAa aH cI aH.size;clear k3;go_wp2_with fail
    go_ret;exact ⟨zDl HR.out,cm⟩
end Go.Proofs.YtlmdfmnbcndhoaaGreatDoor
