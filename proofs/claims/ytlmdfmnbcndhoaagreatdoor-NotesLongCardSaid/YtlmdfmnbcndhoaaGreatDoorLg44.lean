/-
  Lemmas for NotesLong, part 44: contracts and plain facts. Conditions: those that each theorem names.
-/
import Derived.Test.YtlmdfmnbcndhoaaGreatDoorLg42
import Derived.Test.YtlmdfmnbcndhoaaGreatDoorLg43
import Derived.Deep.DeepCutAuto
import Derived.BigRegion
namespace Go.Proofs.YtlmdfmnbcndhoaaGreatDoor
open Go.RowKit
section
variable {P:Program} {C:World→Prop} {ρ:Operand→Value} {o:Oper} {w:World} {x y:Operand} {q:Value}
theorem q_un {u:UnOp} {t:TypeId} {X:Value} (ho:o.op=.unOp u t x) (hx:ρ x=X) (hr:(Op.unary u X).run P w=.ok q w):Oper.quietUpon P C w q ((execOp ρ o).run P w) :=
 zLg (m:=Op.unary u X) (by unfold execOp;rw [ho,←hx]) hr
theorem q_ix {t:TypeId} {X I:Value} (ho:o.op=.indexAddr t x y) (hx:ρ x=X) (hy:ρ y=I) (hr:(Instr.indexAt t X I).run P w=.ok q w):Oper.quietUpon P C w q ((execOp ρ o).run P w) :=
 zLg (m:=Instr.indexAt t X I) (by unfold execOp;rw [ho,←hx,←hy]) hr
end
theorem zVG (b:Bool) (w:World):(Op.unary .not (.bool b)).run Tryz.prog w=.ok (.bool (!b)) w:=by go_simp
theorem zSy {g o n c:Nat} (h:(0:Int) < (n:Int)) (w:World):(Instr.indexAt 53 (.slice (some ⟨g,o,none⟩) n c) (.int .i64 0)).run Tryz.prog w=.ok (.pointer (some ⟨g,o,none⟩)) w:=by
 go_simp
 intro e;omega
theorem zUA {p:Addr} {A:Option Addr} {n c:Nat} {w:World} (h:w.cell? p=some (.slice A n c)):(Instr.loadAt 53 (.pointer (some p))).run Tryz.prog w=.ok (.slice A n c) w:=by go_simp
section
variable {x y:Operand} {w:World} {X Y:Int} {b:Bool}
theorem zUB (h:(X != Y)=b):(do eqGuard .neq 74 x y (.int .i64 X) (.int .i64 Y);binOp .neq 74 (.int .i64 X) (.int .i64 Y):Sem Value).run Tryz.prog w=.ok (.bool b) w:=by subst h;go_simp
theorem zUC (p:Nat) (h:p≤1000000000):(do eqGuard .rem 3 x y (.int .i64 (p:Int)) (.int .i64 2);binOp .rem 3 (.int .i64 (p:Int)) (.int .i64 2):Sem Value).run Tryz.prog w=.ok (.int .i64 ((p:Int) % 2)) w:=by
 have s3:IntKind.i64.wrap ((p:Int) % 2)=(p:Int) % 2:=IntWalk.i64_in _ (by omega);have s4:(p:Int).tmod 2=(p:Int) % 2:=Int.tmod_eq_emod_of_nonneg (by omega);go_simp
end
theorem zOn (vs:Array Value) (w:World):(callFunc 134 vs).run Tryz.prog w=.ok (.enter 134 vs) w:=by go_simp
theorem zDD {x:Nat} {L:List Lt} {n:Nat} (hx:cN L n / 2=x) (K:Int) (A:Option Addr) (c:Nat) (w:World) (hA:Lets w A n L) :
  Calls Tryz.prog 136 #[.agg #[.int .i64 K,.slice A n c]] w fun e w'=>e=.returned (.int .i64 x)∧Below w.heap.size w w':=by
 subst hx;exact zIW K A n c L w hA
theorem zCU {b:Bool} {K:Int} {L:List Lt} (hb:zBF K L=b) (A:Option Addr) (n c:Nat) (w:World) (hA:Lets w A n L) (hn400:n≤1000) :
  Calls Tryz.prog 134 #[.agg #[.int .i64 K,.slice A n c]] w fun e w'=>e=.returned (.bool b)∧Below w.heap.size w w':=by
 subst hb;exact zMj K A n c L w hA hn400
theorem zFP {q:Nat} {K:Int} {L:List Lt} (hq:(zBz L).length=q) (A:Option Addr) (n c:Nat) (w:World) (hA:Lets w A n L) (g:Good K L) (hn400:n≤1000) :
  Calls Tryz.prog 135 #[.agg #[.int .i64 K,.slice A n c]] w fun e w'=>(∃A' c',e=.returned (.slice A' q c'))∧Below w.heap.size w w':=by
 subst hq;refine (zQA K A n c L w hA g hn400).mono ?_;rintro e w' ⟨A',c',vs,rfl,_,hb⟩;exact ⟨⟨A',c',rfl⟩,hb⟩
theorem zNm {K:Int} {L:List Lt} (h:400 < L.length∨200 < cN L L.length):zAB K L=7:=by unfold zAB;rw [if_pos h]
theorem zNn {K:Int} {L:List Lt} (h:¬(400 < L.length∨200 < cN L L.length)) (h2:K < 0∨40 < K):zAB K L=2:=by unfold zAB;rw [if_neg h,if_pos h2]
theorem zSz {K:Int} {L:List Lt} (h:¬(400 < L.length∨200 < cN L L.length)) (h2:¬(K < 0∨40 < K)) (h3:L.length=0):zAB K L=0:=by unfold zAB;rw [if_neg h,if_neg h2,if_pos h3]
theorem zSA {K:Int} {L:List Lt} (h:¬(400 < L.length∨200 < cN L L.length)) (h2:¬(K < 0∨40 < K)) (h3:¬L.length=0):zAB K L=if zAQ K L then 0 else 3:=by unfold zAB;rw [if_neg h,if_neg h2,if_neg h3]
set_option maxRecDepth 100000 in
set_option maxHeartbeats 3200000 in
theorem zQB (K:Int) (A:Option Addr) (n c:Nat) (L:List Lt) (w:World) (hA:Lets w A n L) :
  Calls Tryz.prog 86 #[.agg #[.int .i64 K,.slice A n c]] w fun e w'=>e=.returned (.int .i64 (zAB K L))∧Below w.heap.size w w':=by
 have hle:=hA.le;have hLn:L.length=n:=hA.len;have hbx:=Boxed.refl w K A n c;by_cases h400:400 < n
 ·have hf:=Lib.hid (zNm (K:=K) (L:=L) (.inl (by omega)));have q:(400:Int) < (n:Int):=by omega
  clear hLn;go_enter Tryz.func86,Tryz.ntmps86;go_wp2_with fail
  go_ret;exact ⟨zAo hf.out.symm,hbx.below⟩
 ·have q:decide ((400:Int) < (n:Int))=false:=by simp;omega
  by_cases h200:200 < cN L n
  ·have hf:=Lib.hid (zNm (K:=K) (L:=L) (.inr (by rw [hLn];exact h200)));have q2:(200:Int) < (cN L n:Int):=by omega
   clear hLn;go_enter Tryz.func86,Tryz.ntmps86;go_wp2_with fail
   refine (zBd K A n c L _ (hA.below hbx.below)).mono ?_;rintro e w1 ⟨rfl,hb1⟩;have hb2:=hbx.more hb1;go_wp2_with fail
   go_ret;exact ⟨zAo hf.out.symm,hb2.below⟩
  ·have q2:decide ((200:Int) < (cN L n:Int))=false:=by simp;omega
   have hno:¬(400 < L.length∨200 < cN L L.length):=by rw [hLn];omega
   by_cases hK0:K < 0
   ·have hf:=Lib.hid (zNn (K:=K) (L:=L) hno (.inl hK0));clear hLn;go_enter Tryz.func86,Tryz.ntmps86;go_wp2_with fail
    refine (zBd K A n c L _ (hA.below hbx.below)).mono ?_;rintro e w1 ⟨rfl,hb1⟩;have hb2:=hbx.more hb1;have c0:=hb2.c0;go_wp2_with fail
    go_ret;exact ⟨zAo hf.out.symm,hb2.below⟩
   ·have q3:decide (K < 0)=false:=by simpa using hK0
    by_cases hK4:40 < K
    ·have hf:=Lib.hid (zNn (K:=K) (L:=L) hno (.inr hK4));clear hLn hK0;go_enter Tryz.func86,Tryz.ntmps86;go_wp2_with fail
     refine (zBd K A n c L _ (hA.below hbx.below)).mono ?_;rintro e w1 ⟨rfl,hb1⟩;have hb2:=hbx.more hb1;have c0:=hb2.c0;go_wp2_with fail
     go_ret;exact ⟨zAo hf.out.symm,hb2.below⟩
    ·have q4:decide (40 < K)=false:=by simpa using hK4
     by_cases h0:n=0
     ·have hf:=Lib.hid (zSz (K:=K) (L:=L) hno (by omega) (by omega));subst h0;clear hLn hK0 hK4;go_enter Tryz.func86,Tryz.ntmps86;go_wp2_with fail
      refine (zBd K A 0 c L _ (hA.below hbx.below)).mono ?_;rintro e w1 ⟨rfl,hb1⟩;have hb2:=hbx.more hb1;have c0:=hb2.c0;have c1:=hb2.c1;go_wp2_with fail
      go_ret;exact ⟨zAo hf.out.symm,hb2.below⟩
     ·have hf:=zSA (K:=K) (L:=L) hno (by omega) (by omega);have q5:((n:Int)==0)=false:=by simp;omega
      have q50:(0:Int) < (n:Int):=by omega
      have q51:0 < n:=by omega
      have hn1000:n≤1000:=by omega
      have hpn:=zIg L n;obtain ⟨g,o,rfl,hg,hx,_⟩:=hA.at_ (k:=0) (by omega);obtain ⟨x,hx2⟩:∃x,cN L n / 2=x:=⟨_,rfl⟩
      obtain ⟨q',hq'⟩:∃q',(zBz L).length=q':=⟨_,rfl⟩
      have HX2:=Lib.hid hx2;have HQ:=Lib.hid hq';have hz0:=hx.kind;simp only [Nat.zero_mul,Nat.add_zero] at hz0;have HLn:=Lib.hid hLn;have HV:=Lib.hid hf;have hgl:=hg;have hxb:x≤1000:=by omega
      have hvd:Hid (zAQ K L=(isP (la L 0)&&decide (pN L n % 2=0)&&zBF K L&&((zBz L).length==pN L n+cN L n / 2+2))):=by
       show _=_;unfold zAQ zFX;rw [hLn]
      have m0:(0:Int)≤(pN L n:Int):=by omega
      clear hLn hf hx2 hq' h0 hK0 hK4 hno hx;have hzw:=hz0;by_cases hk:(la L 0).kind=1
      ·have hk1:((la L 0).kind != 1)=false:=by simpa using hk
       have HK:=Lib.hid (zFY hk);clear hk;by_cases hp:pN L n % 2=0
       ·have hp1:((pN L n:Int) % 2 != 0)=false:=by simp;omega
        have HP:=Lib.hid hp;clear hp;have s3:IntKind.i64.wrap ((pN L n:Int) % 2)=(pN L n:Int) % 2:=IntWalk.i64_in _ (by omega);have s4:(pN L n:Int).tmod 2=(pN L n:Int) % 2:=Int.tmod_eq_emod_of_nonneg (by omega)
        cases hl:zBF K L with
        | false =>
         have HLB:=Lib.hid hl;have HF:=Lib.hid (show zAB K L=3 by rw [HV.out,hvd.out,hl];simp);clear hl;go_enter Tryz.func86,Tryz.ntmps86;go_wp2_with fail
         refine (zBd K (some ⟨g,o,none⟩) n c L _ (hA.below hbx.below)).mono ?_;rintro e w1 ⟨rfl,hb1⟩;have hb2:=hbx.more hb1;have c0:=hb2.c0;have c1:=hb2.c1;go_wp2_with fail
         refine (zCV K (some ⟨g,o,none⟩) n c L _ (hA.below hb2.below)).mono ?_;rintro e w2 ⟨rfl,hb3⟩;have hb4:=hb2.more hb3;clear c0 c1 hb1 hb2 hb3;have c0:=hb4.c0;have c1:=hb4.c1;have z2:w2.cell? ⟨g,o,none⟩=some (.int .i64 (la L 0).kind):=(hb4.below.cell (p:=⟨g,o,none⟩) hgl).trans hzw;have hA2:=hA.below hb4.below;go_wp2_with fail
         have hl0:w.heap.size < w2.heap.size:=World.block_lt_of_cell? w2 _ c0;refine zFi (C:=fun w'=>Below w2.heap.size w2 w') 54 [(1,.pointer (some ⟨w.heap.size,0,none⟩)),(3,.int .i64 (pN L n:Nat))] (by kernel_rfl) (by kernel_rfl) rfl (by kernel_rfl) (by intro q hq;simp at hq;rcases hq with rfl | rfl<;>simp) (zAL (zAL rfl (by simp) rfl) (by simp) rfl) ((Below.refl _ _).drew) ?_;intro r hrc hrf;refine zAh (v:=.pointer (some ⟨w.heap.size,1,none⟩)) rfl (fun w' hC=>zCW (p:=.pointer (some ⟨w.heap.size,0,none⟩)) rfl rfl (zQu _ 0 1 (by decide) _)) ?_;refine zAh (v:=.slice (some ⟨g,o,none⟩) n c) rfl (fun w' hC=>zCC (p:=.pointer (some ⟨w.heap.size,1,none⟩)) rfl rfl (zUA ((hC.cell (p:=⟨w.heap.size,1,none⟩) hl0).trans c1))) ?_;refine zAh (v:=.pointer (some ⟨g,o,none⟩)) rfl (fun w' hC=>q_ix (X:=.slice (some ⟨g,o,none⟩) n c) (I:=.int .i64 0) rfl rfl (hrc _) (zSy q50 _)) ?_;refine zAh (v:=.pointer (some ⟨g,o,none⟩)) rfl (fun w' hC=>zCW (p:=.pointer (some ⟨g,o,none⟩)) rfl rfl (zBm _ o 0 (by decide) _)) ?_;refine zAh (v:=.int .i64 (la L 0).kind) rfl (fun w' hC=>zCC (p:=.pointer (some ⟨g,o,none⟩)) rfl rfl (zFc ((hC.cell (p:=⟨g,o,none⟩) (World.block_lt_of_cell? w2 _ z2)).trans z2))) ?_;refine zAh (v:=.bool (false)) rfl (fun w' hC=>zBQ (X:=.int .i64 (la L 0).kind) (Y:=.int .i64 1) rfl rfl (hrc _) (zUB hk1)) ?_;refine zAh (v:=.bool (false)) rfl (fun w' hC=>zAV rfl rfl) ?_;refine zAe (b:=!(false)) (v:=.int .i64 (pN L n:Nat)) (zAl rfl rfl rfl) (fun h w' hC=>zAV rfl rfl) ?_;refine zAe (b:=!(false)) (v:=.int .i64 ((pN L n:Int) % 2)) (zAl rfl rfl rfl) (fun h w' hC=>zBQ (X:=.int .i64 (pN L n:Nat)) (Y:=.int .i64 2) rfl (cnd (u:=undef) h) (hrc _) (zUC _ (by omega))) ?_;refine zAe (b:=!(false)) (v:=.bool (false)) (zAl rfl rfl rfl) (fun h w' hC=>zBQ (X:=.int .i64 ((pN L n:Int) % 2)) (Y:=.int .i64 0) rfl (cnd (u:=undef) h) (hrc _) (zEG hp1)) ?_;refine zAh (v:=.bool (false||false)) rfl (fun w' hC=>zKd rfl (fun _=>hrc _) rfl rfl) ?_;refine zAh (v:=.bool (false||false)) rfl (fun w' hC=>zAV rfl rfl) ?_;refine zAe (b:=!(false||false)) (v:=.agg #[.int .i64 K,.slice (some ⟨g,o,none⟩) n c]) (zAl rfl rfl rfl) (fun h w' hC=>zCC (p:=.pointer (some ⟨w.heap.size,0,none⟩)) rfl rfl (zJT ((hC.cell (p:=⟨w.heap.size,0,none⟩) hl0).trans c0) ((hC.cell (p:=⟨w.heap.size,1,none⟩) hl0).trans c1))) ?_;refine zAe (b:=!(false||false)) (v:=.bool (false)) (zAl rfl rfl rfl) (fun h w' hC=>zIz (vs:=#[.agg #[.int .i64 K,.slice (some ⟨g,o,none⟩) n c]]) rfl (hrf _) (zVS (cnd (u:=undef) h)) (zOn _ _) ((zCU HLB.out (some ⟨g,o,none⟩) n c _ (hA2.below hC) hn1000).mono fun _ _ ⟨he,hb⟩=>⟨he,zAa hC hb hC.size⟩)) ?_;refine zAe (b:=!(false||false)) (v:=.bool (!false)) (zAl rfl rfl rfl) (fun h w' hC=>q_un (X:=.bool (false)) rfl (cnd (u:=undef) h) (zVG _ _)) ?_;refine zAh (v:=.bool ((false||false)||(!false))) rfl (fun w' hC=>zKd rfl (fun _=>hrc _) rfl rfl) ?_;refine zAh (v:=.bool ((false||false)||(!false))) rfl (fun w' hC=>zAV rfl rfl) ?_;refine zAe (b:=!((false||false)||(!false))) (v:=undef) (zAl rfl rfl rfl) (fun h=>absurd h (by decide)) ?_;refine zAe (b:=!((false||false)||(!false))) (v:=undef) (zAl rfl rfl rfl) (fun h=>absurd h (by decide)) ?_;refine zAe (b:=!((false||false)||(!false))) (v:=undef) (zAl rfl rfl rfl) (fun h=>absurd h (by decide)) ?_;refine zAe (b:=!((false||false)||(!false))) (v:=undef) (zAl rfl rfl rfl) (fun h=>absurd h (by decide)) ?_;refine zAe (b:=!((false||false)||(!false))) (v:=undef) (zAl rfl rfl rfl) (fun h=>absurd h (by decide)) ?_;refine zAe (b:=!((false||false)||(!false))) (v:=undef) (zAl rfl rfl rfl) (fun h=>absurd h (by decide)) ?_;refine zAe (b:=!((false||false)||(!false))) (v:=.bool false) (zAl rfl rfl rfl) (fun h=>absurd h (by decide)) ?_;refine zAe (b:=!((false||false)||(!false))) (v:=.bool false) (zAl rfl rfl rfl) (fun h=>absurd h (by decide)) ?_;refine zAe (b:=!((false||false)||(!false))) (v:=.bool false) (zAl rfl rfl rfl) (fun h=>absurd h (by decide)) ?_;refine zAh (v:=.bool (((false||false)||(!false))||false)) rfl (fun w' hC=>zKd rfl (fun _=>hrc _) rfl rfl) ?_;intro wx hwx;clear hrc hrf r;have hbf:=hb4.more hwx;clear c0 c1 z2 hA2 hb4;simp only [zQM,frm,Act.put,List.setIfInBounds_toArray,List.set_cons_succ,List.set_cons_zero];go_wp2_with fail
         go_ret;exact ⟨zAo HF.out.symm,hbf.below⟩
        | true =>
         have HLB:=Lib.hid hl
         have HG:=Lib.hid (show Good K L by
          have h1:=hl
          rw [←zCg] at h1
          simp only [Bool.and_eq_true] at h1
          exact zDq (by rw [HLn.out];omega) HK.out (by rw [HLn.out];exact HP.out) h1.1.1 h1.1.2 h1.2)
         have s1:IntKind.i64.wrap ((pN L n:Int)+(x:Int))=(pN L n:Int)+(x:Int):=IntWalk.i64_in _ (by omega);have s2:IntKind.i64.wrap ((pN L n:Int)+(x:Int)+2)=(pN L n:Int)+(x:Int)+2:=IntWalk.i64_in _ (by omega)
         cases hfl:((q':Int) != (pN L n:Int)+(x:Int)+2) with
         | true =>
          have HF:=Lib.hid (show zAB K L=3 by
           rw [HV.out,hvd.out,hl,HQ.out,HX2.out]
           have:(q'==pN L n+x+2)=false:=by simp at hfl ⊢;omega
           rw [this];simp)
          clear hl;go_enter Tryz.func86,Tryz.ntmps86;go_wp2_with fail
          refine (zBd K (some ⟨g,o,none⟩) n c L _ (hA.below hbx.below)).mono ?_;rintro e w1 ⟨rfl,hb1⟩;have hb2:=hbx.more hb1;have c0:=hb2.c0;have c1:=hb2.c1;go_wp2_with fail
          refine (zCV K (some ⟨g,o,none⟩) n c L _ (hA.below hb2.below)).mono ?_;rintro e w2 ⟨rfl,hb3⟩;have hb4:=hb2.more hb3;clear c0 c1 hb1 hb2 hb3;have c0:=hb4.c0;have c1:=hb4.c1;have z2:w2.cell? ⟨g,o,none⟩=some (.int .i64 (la L 0).kind):=(hb4.below.cell (p:=⟨g,o,none⟩) hgl).trans hzw;have hA2:=hA.below hb4.below;go_wp2_with fail
          have KP:=Lib.hid (show ∀wx,Below w2.heap.size w2 wx→(Below w2.heap.size w2 wx∧Boxed w wx K (some ⟨g,o,none⟩) n c∧wx.cell? ⟨w.heap.size,0,none⟩=some (.int .i64 K)∧wx.cell? ⟨w.heap.size,1,none⟩=some (.slice (some ⟨g,o,none⟩) n c)∧wx.cell? ⟨g,o,none⟩=some (.int .i64 (la L 0).kind)) from fun wx h=>⟨h,hb4.more h,(hb4.more h).c0,(hb4.more h).c1,(h.cell (World.block_lt_of_cell? w2 _ z2)).trans z2⟩)
          first
           | go_region_held3 (fun wx=>Below w2.heap.size w2 wx∧Boxed w wx K (some ⟨g,o,none⟩) n c∧wx.cell? ⟨w.heap.size,0,none⟩=some (.int .i64 K)∧wx.cell? ⟨w.heap.size,1,none⟩=some (.slice (some ⟨g,o,none⟩) n c)∧wx.cell? ⟨g,o,none⟩=some (.int .i64 (la L 0).kind)) (first | assumption | exact KP.out _ (Below.refl _ _).drew | exact KP.out _ (zAa (And.left (by assumption)) (by assumption) (Below.size (And.left (by assumption))))) (first | (refine zFO (by rfl) ?_) | (go_at_call 134;refine (zCU HLB.out (some ⟨g,o,none⟩) n c _ (hA2.below (And.left (by assumption))) hn1000).mono ?_;rintro e wx ⟨rfl,hb5⟩) | (go_at_call 135;refine (zFP HQ.out (some ⟨g,o,none⟩) n c _ (hA2.below (And.left (by assumption))) HG.out hn1000).mono ?_;rintro e wy ⟨⟨A7,c7,rfl⟩,hb6⟩) | (go_at_call 136;refine (zDD HX2.out K (some ⟨g,o,none⟩) c _ (hA2.below (And.left (by assumption)))).mono ?_;rintro e wz ⟨rfl,hb7⟩))
           | fail
          all_goals
           have hbf:=hb4.more (And.left (show Below w2.heap.size w2 _∧_ by assumption));go_wp2_with fail
           go_ret;exact ⟨zAo HF.out.symm,hbf.below⟩
         | false =>
          have HF:=Lib.hid (show zAB K L=0 by
           rw [HV.out,hvd.out,hl,HQ.out,HX2.out,HK.out]
           have:(q'==pN L n+x+2)=true:=by simp at hfl ⊢;omega
           rw [this];simp [HP.out])
          clear hl;go_enter Tryz.func86,Tryz.ntmps86;go_wp2_with fail
          refine (zBd K (some ⟨g,o,none⟩) n c L _ (hA.below hbx.below)).mono ?_;rintro e w1 ⟨rfl,hb1⟩;have hb2:=hbx.more hb1;have c0:=hb2.c0;have c1:=hb2.c1;go_wp2_with fail
          refine (zCV K (some ⟨g,o,none⟩) n c L _ (hA.below hb2.below)).mono ?_;rintro e w2 ⟨rfl,hb3⟩;have hb4:=hb2.more hb3;clear c0 c1 hb1 hb2 hb3;have c0:=hb4.c0;have c1:=hb4.c1;have z2:w2.cell? ⟨g,o,none⟩=some (.int .i64 (la L 0).kind):=(hb4.below.cell (p:=⟨g,o,none⟩) hgl).trans hzw;have hA2:=hA.below hb4.below;go_wp2_with fail
          have KP:=Lib.hid (show ∀wx,Below w2.heap.size w2 wx→(Below w2.heap.size w2 wx∧Boxed w wx K (some ⟨g,o,none⟩) n c∧wx.cell? ⟨w.heap.size,0,none⟩=some (.int .i64 K)∧wx.cell? ⟨w.heap.size,1,none⟩=some (.slice (some ⟨g,o,none⟩) n c)∧wx.cell? ⟨g,o,none⟩=some (.int .i64 (la L 0).kind)) from fun wx h=>⟨h,hb4.more h,(hb4.more h).c0,(hb4.more h).c1,(h.cell (World.block_lt_of_cell? w2 _ z2)).trans z2⟩)
          first
           | go_region_held3 (fun wx=>Below w2.heap.size w2 wx∧Boxed w wx K (some ⟨g,o,none⟩) n c∧wx.cell? ⟨w.heap.size,0,none⟩=some (.int .i64 K)∧wx.cell? ⟨w.heap.size,1,none⟩=some (.slice (some ⟨g,o,none⟩) n c)∧wx.cell? ⟨g,o,none⟩=some (.int .i64 (la L 0).kind)) (first | assumption | exact KP.out _ (Below.refl _ _).drew | exact KP.out _ (zAa (And.left (by assumption)) (by assumption) (Below.size (And.left (by assumption))))) (first | (refine zFO (by rfl) ?_) | (go_at_call 134;refine (zCU HLB.out (some ⟨g,o,none⟩) n c _ (hA2.below (And.left (by assumption))) hn1000).mono ?_;rintro e wx ⟨rfl,hb5⟩) | (go_at_call 135;refine (zFP HQ.out (some ⟨g,o,none⟩) n c _ (hA2.below (And.left (by assumption))) HG.out hn1000).mono ?_;rintro e wy ⟨⟨A7,c7,rfl⟩,hb6⟩) | (go_at_call 136;refine (zDD HX2.out K (some ⟨g,o,none⟩) c _ (hA2.below (And.left (by assumption)))).mono ?_;rintro e wz ⟨rfl,hb7⟩))
           | fail
          all_goals
           have hbf:=hb4.more (And.left (show Below w2.heap.size w2 _∧_ by assumption));go_wp2_with fail
           go_ret;exact ⟨zAo HF.out.symm,hbf.below⟩
       ·have hp1:((pN L n:Int) % 2 != 0)=true:=by simp;omega
        have HF:=Lib.hid (show zAB K L=3 by rw [HV.out,hvd.out];simp [hp]);clear hp;go_enter Tryz.func86,Tryz.ntmps86;go_wp2_with fail
        refine (zBd K (some ⟨g,o,none⟩) n c L _ (hA.below hbx.below)).mono ?_;rintro e w1 ⟨rfl,hb1⟩;have hb2:=hbx.more hb1;have c0:=hb2.c0;have c1:=hb2.c1;go_wp2_with fail
        refine (zCV K (some ⟨g,o,none⟩) n c L _ (hA.below hb2.below)).mono ?_;rintro e w2 ⟨rfl,hb3⟩;have hb4:=hb2.more hb3;clear c0 c1 hb1 hb2 hb3;have c0:=hb4.c0;have c1:=hb4.c1;have z2:w2.cell? ⟨g,o,none⟩=some (.int .i64 (la L 0).kind):=(hb4.below.cell (p:=⟨g,o,none⟩) hgl).trans hzw;have hA2:=hA.below hb4.below;go_wp2_with fail
        go_quiet (fail)
        go_wp2_with fail
        go_ret;exact ⟨zAo HF.out.symm,zAf hb4.below _⟩
      ·have hk1:((la L 0).kind != 1)=true:=by simpa using hk
       have HF:=Lib.hid (show zAB K L=3 by rw [HV.out,hvd.out,zGH hk];simp);clear hk;go_enter Tryz.func86,Tryz.ntmps86;go_wp2_with fail
       refine (zBd K (some ⟨g,o,none⟩) n c L _ (hA.below hbx.below)).mono ?_;rintro e w1 ⟨rfl,hb1⟩;have hb2:=hbx.more hb1;have c0:=hb2.c0;have c1:=hb2.c1;go_wp2_with fail
       refine (zCV K (some ⟨g,o,none⟩) n c L _ (hA.below hb2.below)).mono ?_;rintro e w2 ⟨rfl,hb3⟩;have hb4:=hb2.more hb3;clear c0 c1 hb1 hb2 hb3;have c0:=hb4.c0;have c1:=hb4.c1;have z2:w2.cell? ⟨g,o,none⟩=some (.int .i64 (la L 0).kind):=(hb4.below.cell (p:=⟨g,o,none⟩) hgl).trans hzw;have hA2:=hA.below hb4.below;go_wp2_with fail
       go_quiet (fail)
       go_wp2_with fail
       go_ret;exact ⟨zAo HF.out.symm,zAf hb4.below _⟩
def OwnBl (w:World) (base:Nat) (A:Option Addr) (n c:Nat) (D:List Bool):Prop:=Row w base 1 A n c (D.map Value.bool)
theorem OwnBl.at_ {w:World} {base:Nat} {A:Option Addr} {n c i:Nat} {d:Nat→Bool} (h:OwnBl w base A n c ((List.range n).map d)) (hi:i < n) :
  ∃g o,A=some ⟨g,o,none⟩∧w.cell? ⟨g,o+i,none⟩=some (.bool (d i)):=by
 obtain ⟨g,off,rfl,_,hlt⟩:=Row.form h (by omega);exact ⟨g,off,rfl,Row.cell h (j:=i) (by simp [List.getElem?_range hi])⟩
theorem zQC:(Tryz.prog.info? 4).map (fun i=>(i.zero,i.size,i.bytes))=some (some (.bool false),1,1):=by kernel_rfl
theorem zVH {w:World} {ops:Array Oper} {rest:List Oper} {o:Oper} {a:Act} {Q':Exit→Act→World→Prop} (hgd:o.guard=none) (s x:Operand)
  (ho:o.op=.call { callee:=.builtin .append,args:=#[s,x],argTypes:=#[145,145] })
  {base:Nat} {A:Option Addr} {n c:Nat} {D:List Bool} (hst:OwnBl w base A n c D) (b:Bool) (hs:a.eval s=.slice A n c)
  (H:Nat) (hH:w.heap.size=H) (hx:a.eval x=.slice (some ⟨H,0,none⟩) 1 1) (N:Nat) (hN:n+1=N) (hn:N≤1000000) (hbase:base≤w.heap.size)
  (h:∀A' c' w',OwnBl w' base A' N c' (D++[b])→w.grownBy w' (blk A)→(∀k,blk A'=some k→blk A=some k∨w.heap.size≤k)→wpList Tryz.prog ops Q' rest (a.put o.dst (.slice A' N c')) w') :
  wpList Tryz.prog ops Q' (o :: rest) a (w.alloc (.cells #[.bool b] 4)):=by
 subst hH;obtain ⟨i0,hi,hz0,hz1,hz2⟩:=info_parts zQC
 refine zQL hgd s x 145 ho 4 i0 _ 1 1 Tryz.underlying145 hi hz0 hz1 hz2 rfl (by decide) (Row.alloc hst _) (Src.new (m:=1) (cs:=[.bool b]) rfl)
  (by intro u hu;simp at hu;rcases hu with rfl;rfl) hs hx N hN (by unfold maxLen;omega) (by omega) (by simp;omega) ?_
 intro A' c' w' h1 h2 h3 _;refine h A' c' w' (by unfold OwnBl;rw [List.map_append];simpa using h1) (zAb (World.grownBy_alloc w _ _) h2) (fun k hk=>?_);rcases h3 k hk with h | h
 ·exact .inl h
 ·right;simp at h;omega
set_option maxRecDepth 100000 in
set_option maxHeartbeats 6400000 in
theorem zOo (K:Int) (A:Option Addr) (n c:Nat) (L:List Lt) (w:World) (hA:Lets w A n L) (hn:n≤400) :
  Calls Tryz.prog 165 #[.agg #[.int .i64 K,.slice A n c]] w fun e w'=>∃A' c',e=.returned (.slice A' n c')∧OwnBl w' w.heap.size A' n c' ((List.range n).map (dwn L))∧Below w.heap.size w w':=by
 have HA:=Lib.hid hA;have hbx:=Boxed.refl w K A n c;have hD0:OwnBl (w.alloc (.cells #[.int .i64 K,.slice A n c] 55)) (w.heap.size+1) none 0 0 ((List.range 0).map (dwn L)):=Row.none_ _ _ _;clear hA;go_enter Tryz.func165,Tryz.ntmps165;go_wp2_with fail
 go_loopw [3,4] (fun v3 v4 wr=>∃(i:Nat) (A2:Option Addr) (c2:Nat),i≤n∧v4=.int .i64 i∧v3=.slice A2 i c2∧Boxed w wr K A n c∧OwnBl wr (w.heap.size+1) A2 i c2 ((List.range i).map (dwn L))) (fun _ v4 _=>n-(intOf v4).toNat)
 case atStart=>exact ⟨0,none,0,Nat.zero_le _,rfl,rfl,hbx,hD0⟩
 case round =>
  obtain ⟨i,A2,c2,hi,rfl,rfl,hB,hD⟩:=hrel;clear hbx hD0;have e0:=hB.c0;have e1:=hB.c1;have hsz:=hB.size;by_cases hlt:i < n
  ·have j0:(i:Int) < (n:Int):=by omega
   have HW:=Lib.hid (HA.out.below hB.below);obtain ⟨x,hx⟩:∃x,dwn L i=x:=⟨_,rfl⟩
   have HD:=Lib.hid (fun wx hL=>hx ▸ zGN K i A n c L wx hL hi);have HS:=Lib.hid (show (List.range i).map (dwn L)++[x]=(List.range (i+1)).map (dwn L) by rw [List.range_succ,List.map_append,←hx];rfl);clear hx;go_wp2_with fail
   refine (HD.out _ HW.out).mono ?_;rintro e w2 ⟨rfl,hb2⟩;have hB2:=hB.more hb2;have hD2:OwnBl w2 (w.heap.size+1) A2 i c2 ((List.range i).map (dwn L)):=Row.below hD hb2;have hs2:=hb2.size;clear hB hD hb2 e0 e1;go_wp2_with (at_builtin;refine zVH rfl _ _ rfl hD2 x rfl w2.heap.size rfl rfl (i+1) rfl (by omega) (by omega) ?_;intro A4 c4 w4 hD4 hg4 hl4)
   have hB4:=hB2.moreB (B:=w.heap.size+1) ((Below.refl _ _).grown hg4 (by omega) (fun k hk=>(Row.lt hD2 k hk).1)) (Nat.le_refl _);rw [HS.out] at hD4;clear hg4 hl4 hD2 hB2;go_roundw
   case rel=>exact ⟨i+1,A4,c4,hlt,by go_num,rfl,hB4,hD4⟩
   case measure=>simp [intOf];omega
  ·have j0:¬(i:Int) < (n:Int):=by omega
   obtain rfl:i=n:=by omega
   have HR:=Lib.hid (show OwnBl wr w.heap.size A2 i c2 ((List.range i).map (dwn L)) from Row.mono hD (by omega));have HB:=Lib.hid hB.below;go_wp2_with fail
   go_ret;exact ⟨_,_,rfl,HR.out,HB.out⟩
set_option maxRecDepth 100000 in
set_option maxHeartbeats 6400000 in
theorem zQD (K:Int) (A:Option Addr) (n c:Nat) (L:List Lt) (i:Nat) (w:World) (hA:Lets w A n L) (hn:n≤400) (hi:i < n) :
  Calls Tryz.prog 125 #[.agg #[.int .i64 K,.slice A n c],.int .i64 i] w fun e w'=>e=.returned (.bool (isP (la L i)&&dwn L i))∧Below w.heap.size w w':=by
 have hbx:=Boxed.refl w K A n c;have e0:=hbx.c0;have e1:=hbx.c1;have HA:=Lib.hid (hA.below hbx.below);have j0:(0:Int)≤(i:Int):=by omega
 have j1:(i:Int) < (n:Int):=by omega
 obtain ⟨g,o,rfl,hg,hat,_⟩:=(hA.below hbx.below).at_ hi;obtain ⟨b,hbp⟩:∃b,isP (la L i)=b:=⟨_,rfl⟩
 obtain ⟨d,hd⟩:∃d,dwn L i=d:=⟨_,rfl⟩
 have x0:=hat.kind;have k0:((la L i).kind==1)=b:=hbp;have HDD:=Lib.hid hd;have HDo:=Lib.hid (fun wx (h:Lets wx (some ⟨g,o,none⟩) n L)=>zOo K (some ⟨g,o,none⟩) n c L wx h hn);rw [hbp,hd];generalize (la L i).kind=kd at x0 k0;clear hA hat hbp hd
 cases b with
 | false =>
  have HB:=Lib.hid hbx.below;go_enter Tryz.func125,Tryz.ntmps125;go_wp2_with fail
  go_ret;exact ⟨rfl,HB.out⟩
 | true =>
  go_enter Tryz.func125,Tryz.ntmps125;go_wp2_with fail
  generalize w.alloc (.cells #[.int .i64 K,.slice (some ⟨g,o,none⟩) n c] 55)=X at hbx e0 e1 HA x0 ⊢;refine (HDo.out _ HA.out).mono ?_;rintro e w2 ⟨A',c',rfl,hD,hb2⟩;have HB:=Lib.hid (zAa hbx.below hb2 (by have:=hbx.size;omega));obtain ⟨g2,o2,rfl,hc2⟩:=hD.at_ hi;rw [HDD.out] at hc2;clear hD hb2 hbx e0 e1 x0;go_wp2_with fail
  go_ret;exact ⟨rfl,HB.out⟩
set_option maxRecDepth 100000 in
set_option maxHeartbeats 3200000 in
theorem zQE (K:Int) (A:Option Addr) (n c:Nat) (i:Nat) (w:World) (hn:n≤400) (hi:i≤1000) (h0:0 < n) :
  Calls Tryz.prog 126 #[.agg #[.int .i64 K,.slice A n c],.int .i64 i] w fun e w'=>e=.returned (.int .i64 ((i % n:Nat):Int))∧Below w.heap.size w w':=by
 have hbx:=Boxed.refl w K A n c;have e1:=hbx.c1;have HB:=Lib.hid hbx.below;obtain ⟨t,ht⟩:∃t,i % n=t:=⟨_,rfl⟩
 have htn:t < n:=by rw [←ht];exact Nat.mod_lt _ h0
 have q3:(i:Int) % (n:Int)=(t:Int):=by rw [←ht];simp
 have q11:(i:Int).tmod (n:Int)=(t:Int):=by rw [Int.tmod_eq_emod_of_nonneg (by omega)];exact q3
 have q4:((t:Int)+(n:Int)) % (n:Int)=(t:Int):=by rw [Int.add_emod_right];exact Int.emod_eq_of_lt (by omega) (by omega)
 have q12:((t:Int)+(n:Int)).tmod (n:Int)=(t:Int):=by rw [Int.tmod_eq_emod_of_nonneg (by omega)];exact q4
 have q17:IntKind.i64.wrap (t:Int)=(t:Int):=IntWalk.i64_in _ (by omega);have q18:IntKind.i64.wrap ((t:Int)+(n:Int))=(t:Int)+(n:Int):=IntWalk.i64_in _ (by omega);have q20:¬n=0:=by omega
 rw [ht];clear ht;go_enter Tryz.func126,Tryz.ntmps126;go_wp2_with fail
 go_ret;exact ⟨rfl,HB.out⟩
theorem Blk.storeL {w:World} {g:Nat} {t:TypeId} {v0 v1 v2 v3 v4 v5:Value} (h:Blk w g t #[v0,v1,v2,v3,v4,v5]) (u0 u1 u2 u3 u4 u5:Value) :
  Blk ((((((w.setCell ⟨g,0,none⟩ u0).setCell ⟨g,1,none⟩ u1).setCell ⟨g,2,none⟩ u2).setCell ⟨g,3,none⟩ u3).setCell ⟨g,4,none⟩ u4).setCell ⟨g,5,none⟩ u5) g t #[u0,u1,u2,u3,u4,u5]:=(((((h.set_ 0 _).set_ 1 _).set_ 2 _).set_ 3 _).set_ 4 _).set_ 5 _
theorem zBa {a w:World} {g B:Nat} (h:Below B a w) (hB:B≤g) (u0 u1 u2 u3 u4 u5:Value) :
  Below B a ((((((w.setCell ⟨g,0,none⟩ u0).setCell ⟨g,1,none⟩ u1).setCell ⟨g,2,none⟩ u2).setCell ⟨g,3,none⟩ u3).setCell ⟨g,4,none⟩ u4).setCell ⟨g,5,none⟩ u5) :=
 (((((h.setCell (p:=⟨g,0,none⟩) hB _).setCell (p:=⟨g,1,none⟩) hB _).setCell (p:=⟨g,2,none⟩) hB _).setCell (p:=⟨g,3,none⟩) hB _).setCell (p:=⟨g,4,none⟩) hB _).setCell (p:=⟨g,5,none⟩) hB _
set_option maxRecDepth 100000 in
set_option maxHeartbeats 6400000 in
theorem zUD (K:Int) (A:Option Addr) (n c:Nat) (L:List Lt) (i:Nat) (w:World) (hA:Lets w A n L) (hn:n≤400) (hi:i≤1000) (h0:0 < n) :
  Calls Tryz.prog 137 #[.agg #[.int .i64 K,.slice A n c],.int .i64 i] w fun e w'=>e=.returned (.agg #[.int .i64 (la L (i % n)).kind,.int .i64 (la L (i % n)).gate,.int .i64 (la L (i % n)).rank,.int .i64 (la L (i % n)).id,.int .i64 (la L (i % n)).sign,.bool (la L (i % n)).over])∧Below w.heap.size w w':=by
 obtain ⟨t,ht⟩:∃t,i % n=t:=⟨_,rfl⟩
 have htn:t < n:=by rw [←ht];exact Nat.mod_lt _ h0
 have hba:Below w.heap.size w ((w.alloc (.cells #[.int .i64 K,.slice A n c] 55)).alloc (.cells #[.int .i64 0,.int .i64 0,.int .i64 0,.int .i64 0,.int .i64 0,.bool false] 76)):=((Below.refl _ _).alloc (Nat.le_refl _) _).alloc (by simp) _;have hk1:Blk ((w.alloc (.cells #[.int .i64 K,.slice A n c] 55)).alloc (.cells #[.int .i64 0,.int .i64 0,.int .i64 0,.int .i64 0,.int .i64 0,.bool false] 76)) w.heap.size 55 #[.int .i64 K,.slice A n c]:=(Blk.new w _ _).alloc _;have hk2:Blk ((w.alloc (.cells #[.int .i64 K,.slice A n c] 55)).alloc (.cells #[.int .i64 0,.int .i64 0,.int .i64 0,.int .i64 0,.int .i64 0,.bool false] 76)) (w.heap.size+1) 76 #[.int .i64 0,.int .i64 0,.int .i64 0,.int .i64 0,.int .i64 0,.bool false]:=heap_alloc2_new w _ _;have hA2:=hA.below hba;obtain ⟨g,o,rfl,hg,hat,_⟩:=hA2.at_ htn;have HWR:=Lib.hid (fun wx=>ht ▸ zQE K (some ⟨g,o,none⟩) n c i wx hn hi h0);rw [ht];have j0:(0:Int)≤(t:Int):=by omega
 have j1:(t:Int) < (n:Int):=by omega
 obtain ⟨x0,x1,x2,x3,x4,x5⟩:=hat;generalize la L t=x at x0 x1 x2 x3 x4 x5 ⊢;go_enter Tryz.func137,Tryz.ntmps137;go_wp2_with fail
 generalize (w.alloc (.cells #[.int .i64 K,.slice (some ⟨g,o,none⟩) n c] 55)).alloc (.cells #[.int .i64 0,.int .i64 0,.int .i64 0,.int .i64 0,.int .i64 0,.bool false] 76)=X at hba hk1 hk2 hA2 hg x0 x1 x2 x3 x4 x5 ⊢;obtain ⟨b4,hb4⟩:∃b,b=w.heap.size+1:=⟨_,rfl⟩
 rw [←hb4] at hk2 ⊢;have HB4:=Lib.hid hb4;obtain ⟨c0,c1⟩:=cQ2 hk1;have HBA:=Lib.hid hba;have HK1:=Lib.hid hk1;have HK2:=Lib.hid hk2;have HXX:=Lib.hid (show g < X.heap.size∧X.cell? ⟨g,o+t*6,none⟩=some (.int .i64 x.kind)∧X.cell? ⟨g,o+t*6+1,none⟩=some (.int .i64 x.gate)∧X.cell? ⟨g,o+t*6+2,none⟩=some (.int .i64 x.rank)∧X.cell? ⟨g,o+t*6+3,none⟩=some (.int .i64 x.id)∧X.cell? ⟨g,o+t*6+4,none⟩=some (.int .i64 x.sign)∧X.cell? ⟨g,o+t*6+5,none⟩=some (.bool x.over) from ⟨hg,x0,x1,x2,x3,x4,x5⟩);clear hba hk1 hk2 hA2 hg x0 x1 x2 x3 x4 x5 hb4;go_region_with (go_at_call 126;refine (HWR.out _).mono ?_;rintro e wd ⟨rfl,hbe⟩;have hbd:Below X.heap.size X wd:=zAa ((Below.refl X.heap.size X).drew) hbe (Nat.le_refl _);have hk8:=HK1.out.below hbd HK1.out.lt;have hk9:=HK2.out.below hbd HK2.out.lt;have y0:wd.cell? ⟨b4,0,none⟩=some (.int .i64 0):=(hk9.cell 0).trans rfl;have f0:=hk9.frozen 0;have y1:wd.cell? ⟨b4,1,none⟩=some (.int .i64 0):=(hk9.cell 1).trans rfl;have f1:=hk9.frozen 1;have y2:wd.cell? ⟨b4,2,none⟩=some (.int .i64 0):=(hk9.cell 2).trans rfl;have f2:=hk9.frozen 2;have y3:wd.cell? ⟨b4,3,none⟩=some (.int .i64 0):=(hk9.cell 3).trans rfl;have f3:=hk9.frozen 3;have y4:wd.cell? ⟨b4,4,none⟩=some (.int .i64 0):=(hk9.cell 4).trans rfl;have f4:=hk9.frozen 4;have y5:wd.cell? ⟨b4,5,none⟩=some (.bool false):=(hk9.cell 5).trans rfl;have f5:=hk9.frozen 5;have d0:wd.cell? ⟨w.heap.size,0,none⟩=some (.int .i64 K):=(hk8.cell 0).trans rfl;have d1:wd.cell? ⟨w.heap.size,1,none⟩=some (.slice (some ⟨g,o,none⟩) n c):=(hk8.cell 1).trans rfl;have x0:wd.cell? ⟨g,o+t*6,none⟩=some (.int .i64 x.kind):=(hbd.cell (p:=⟨g,o+t*6,none⟩) HXX.out.1).trans HXX.out.2.1;have x1:wd.cell? ⟨g,o+t*6+1,none⟩=some (.int .i64 x.gate):=(hbd.cell (p:=⟨g,o+t*6+1,none⟩) HXX.out.1).trans HXX.out.2.2.1;have x2:wd.cell? ⟨g,o+t*6+2,none⟩=some (.int .i64 x.rank):=(hbd.cell (p:=⟨g,o+t*6+2,none⟩) HXX.out.1).trans HXX.out.2.2.2.1;have x3:wd.cell? ⟨g,o+t*6+3,none⟩=some (.int .i64 x.id):=(hbd.cell (p:=⟨g,o+t*6+3,none⟩) HXX.out.1).trans HXX.out.2.2.2.2.1;have x4:wd.cell? ⟨g,o+t*6+4,none⟩=some (.int .i64 x.sign):=(hbd.cell (p:=⟨g,o+t*6+4,none⟩) HXX.out.1).trans HXX.out.2.2.2.2.2.1;have x5:wd.cell? ⟨g,o+t*6+5,none⟩=some (.bool x.over):=(hbd.cell (p:=⟨g,o+t*6+5,none⟩) HXX.out.1).trans HXX.out.2.2.2.2.2.2)
 all_goals
  have hS:=Blk.storeL hk9 (.int .i64 x.kind) (.int .i64 x.gate) (.int .i64 x.rank) (.int .i64 x.id) (.int .i64 x.sign) (.bool x.over);have hB:=zBa (zAa HBA.out hbd HBA.out.size) (show w.heap.size≤b4 by have:=HB4.out;omega) (.int .i64 x.kind) (.int .i64 x.gate) (.int .i64 x.rank) (.int .i64 x.id) (.int .i64 x.sign) (.bool x.over);go_wp2_with fail
  exact zAG rfl rfl hS Tryz.underlying76 rfl (by kernel_rfl) rfl ⟨rfl,hB⟩
theorem zVI {L:List Lt} {i t n:Nat} {p q:Lt} (hL:L.length=n) (ht:(i+1) % n=t) (hp:la L i=p) (hq:la L t=q) :
  poB L i=(!(isP p&&dwn L i)||(isP q&&(q.gate-p.gate==1||p.gate-q.gate==1))):=by
 unfold poB neB nxL;rw [hL,ht,hp,hq]
theorem zVJ {K:Int} {A:Option Addr} {n c:Nat} {L:List Lt} {i t:Nat} {q:Lt} (ht:i % n=t) (hq:la L t=q) (w:World) (hA:Lets w A n L) (hn:n≤400) (hi:i≤1000) (h0:0 < n) :
  Calls Tryz.prog 137 #[.agg #[.int .i64 K,.slice A n c],.int .i64 i] w fun e w'=>e=.returned (.agg #[.int .i64 q.kind,.int .i64 q.gate,.int .i64 q.rank,.int .i64 q.id,.int .i64 q.sign,.bool q.over])∧Below w.heap.size w w':=by
 subst ht;subst hq;exact zUD K A n c L i w hA hn hi h0
theorem zSB {K:Int} {A:Option Addr} {n c:Nat} {L:List Lt} {i:Nat} {b:Bool} (hb:(isP (la L i)&&dwn L i)=b) (w:World) (hA:Lets w A n L) (hn:n≤400) (hi:i < n) :
  Calls Tryz.prog 125 #[.agg #[.int .i64 K,.slice A n c],.int .i64 i] w fun e w'=>e=.returned (.bool b)∧Below w.heap.size w w':=by
 subst hb;exact zQD K A n c L i w hA hn hi
end Go.Proofs.YtlmdfmnbcndhoaaGreatDoor
