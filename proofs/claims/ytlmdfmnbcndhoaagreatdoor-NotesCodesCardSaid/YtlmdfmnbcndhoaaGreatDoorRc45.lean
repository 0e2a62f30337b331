/-
  Lemmas, part 45. Conditions: each theorem's own.
-/
import Derived.Test.YtlmdfmnbcndhoaaGreatDoorRc43
import Derived.Test.YtlmdfmnbcndhoaaGreatDoorRc44
import Derived.Deep.DeepCutAuto
import Derived.BigRegion
open Go.Value renaming bool→G,int→D,slice→H
open Go.IntKind renaming i64→J
open Option renaming none→U,some→Z
open Bool renaming false→E,true→Q
namespace Go.Proofs.YtlmdfmnbcndhoaaGreatDoor
open Go.RowKit
section
variable {P:Program} {C:World→Prop} {ρ:Operand→Value} {o:Oper} {w:World} {x y:Operand} {q:Value}
theorem q_un {u:UnOp} {t:TypeId} {X:Value} (ho:o.op=.unOp u t x) (hx:ρ x=X) (hr:(Op.unary u X).run P w=.ok q w):Oper.quietUpon P C w q ((execOp ρ o).run P w) :=
 zLr (m:=Op.unary u X) (by unfold execOp;rw [ho,←hx]) hr
theorem q_ix {t:TypeId} {X I:Value} (ho:o.op=.indexAddr t x y) (hx:ρ x=X) (hy:ρ y=I) (hr:(Instr.indexAt t X I).run P w=.ok q w):Oper.quietUpon P C w q ((execOp ρ o).run P w) :=
 zLr (m:=Instr.indexAt t X I) (by unfold execOp;rw [ho,←hx,←hy]) hr
end
theorem zWY (b:Bool) (w:World):(Op.unary .not (G b)).run Tryz.prog w=.ok (G (!b)) w:=by go_simp
theorem zTd {g o n c:Nat} (h:(0:Int) < (n:Int)) (w:World):(Instr.indexAt 53 (H (Z ⟨g,o,U⟩) n c) (D J 0)).run Tryz.prog w=.ok (.pointer (Z ⟨g,o,U⟩)) w:=by
 go_simp
 intro e;omega
theorem zVB {p:Addr} {A:Option Addr} {n c:Nat} {w:World} (h:w.cell? p=Z (H A n c)):(Instr.loadAt 53 (.pointer (Z p))).run Tryz.prog w=.ok (H A n c) w:=by go_simp
section
variable {x y:Operand} {w:World} {X Y:Int} {b:Bool}
theorem zVC (h:(X != Y)=b):(do eqGuard .neq 74 x y (D J X) (D J Y);binOp .neq 74 (D J X) (D J Y):Sem Value).run Tryz.prog w=.ok (G b) w:=by subst h;go_simp
theorem zVD (p:Nat) (h:p≤1000000000):(do eqGuard .rem 3 x y (D J (p:Int)) (D J 2);binOp .rem 3 (D J (p:Int)) (D J 2):Sem Value).run Tryz.prog w=.ok (D J ((p:Int) % 2)) w:=by
 have s3:IntKind.i64.wrap ((p:Int) % 2)=(p:Int) % 2:=IntWalk.i64_in _ (by omega);have s4:(p:Int).tmod 2=(p:Int) % 2:=Int.tmod_eq_emod_of_nonneg (by omega);go_simp
end
theorem zOu (vs:Array Value) (w:World):(callFunc 134 vs).run Tryz.prog w=.ok (.enter 134 vs) w:=by go_simp
theorem zDG {x:Nat} {L:List Lt} {n:Nat} (hx:cN L n / 2=x) (K:Int) (A:Option Addr) (c:Nat) (w:World) (hA:Lets w A n L) :
  Calls Tryz.prog 136 #[.agg #[D J K,H A n c]] w fun e w'=>e=.returned (D J x)∧Below w.heap.size w w':=by
 subst hx;exact zIT K A n c L w hA
theorem zCW {b:Bool} {K:Int} {L:List Lt} (hb:zBF K L=b) (A:Option Addr) (n c:Nat) (w:World) (hA:Lets w A n L) (fN:n≤1000) :
  Calls Tryz.prog 134 #[.agg #[D J K,H A n c]] w fun e w'=>e=.returned (G b)∧Below w.heap.size w w':=by
 subst hb;exact zMo K A n c L w hA fN
theorem zFI {q:Nat} {K:Int} {L:List Lt} (hq:(zBK L).length=q) (A:Option Addr) (n c:Nat) (w:World) (hA:Lets w A n L) (g:Good K L) (fN:n≤1000) :
  Calls Tryz.prog 135 #[.agg #[D J K,H A n c]] w fun e w'=>(∃A' c',e=.returned (H A' q c'))∧Below w.heap.size w w':=by
 subst hq;refine (zRc K A n c L w hA g fN).mono ?_;rintro e w' ⟨A',c',vs,rfl,_,hb⟩;exact ⟨⟨A',c',rfl⟩,hb⟩
theorem zNo {K:Int} {L:List Lt} (h:400 < L.length∨200 < cN L L.length):zAy K L=7:=by unfold zAy;rw [if_pos h]
theorem zNp {K:Int} {L:List Lt} (h:¬(400 < L.length∨200 < cN L L.length)) (h2:K < 0∨40 < K):zAy K L=2:=by unfold zAy;rw [if_neg h,if_pos h2]
theorem zTe {K:Int} {L:List Lt} (h:¬(400 < L.length∨200 < cN L L.length)) (h2:¬(K < 0∨40 < K)) (h3:L.length=0):zAy K L=0:=by unfold zAy;rw [if_neg h,if_neg h2,if_pos h3]
theorem zTf {K:Int} {L:List Lt} (h:¬(400 < L.length∨200 < cN L L.length)) (h2:¬(K < 0∨40 < K)) (h3:¬L.length=0):zAy K L=if zBd K L then 0 else 3:=by unfold zAy;rw [if_neg h,if_neg h2,if_neg h3]
set_option maxRecDepth 100000 in
set_option maxHeartbeats 3200000 in
theorem zRd (K:Int) (A:Option Addr) (n c:Nat) (L:List Lt) (w:World) (hA:Lets w A n L) :
  Calls Tryz.prog 86 #[.agg #[D J K,H A n c]] w fun e w'=>e=.returned (D J (zAy K L))∧Below w.heap.size w w':=by
 have hle:=hA.le;have aA:L.length=n:=hA.len;have hbx:=Boxed.refl w K A n c;by_cases h400:400 < n
 ·have hf:=qH (zNo (K:=K) (L:=L) (.inl (by omega)));have q:(400:Int) < (n:Int):=by omega
  clear aA;go_enter Tryz.func86,Tryz.ntmps86;go_wp2_with fail
  go_ret;exact ⟨zAu hf.out.symm,hbx.below⟩
 ·have q:decide ((400:Int) < (n:Int))=E:=by simp;omega
  by_cases h200:200 < cN L n
  ·have hf:=qH (zNo (K:=K) (L:=L) (.inr (by rw [aA];exact h200)));have q2:(200:Int) < (cN L n:Int):=by omega
   clear aA;go_enter Tryz.func86,Tryz.ntmps86;go_wp2_with fail
   refine (zBe K A n c L _ (hA.below hbx.below)).mono ?_;rintro e w1 ⟨rfl,ah⟩;have ab:=hbx.more ah;go_wp2_with fail
   go_ret;exact ⟨zAu hf.out.symm,ab.below⟩
  ·have q2:decide ((200:Int) < (cN L n:Int))=E:=by simp;omega
   have hno:¬(400 < L.length∨200 < cN L L.length):=by rw [aA];omega
   by_cases hK0:K < 0
   ·have hf:=qH (zNp (K:=K) (L:=L) hno (.inl hK0));clear aA;go_enter Tryz.func86,Tryz.ntmps86;go_wp2_with fail
    refine (zBe K A n c L _ (hA.below hbx.below)).mono ?_;rintro e w1 ⟨rfl,ah⟩;have ab:=hbx.more ah;have c0:=ab.c0;go_wp2_with fail
    go_ret;exact ⟨zAu hf.out.symm,ab.below⟩
   ·have q3:decide (K < 0)=E:=by simpa using hK0
    by_cases hK4:40 < K
    ·have hf:=qH (zNp (K:=K) (L:=L) hno (.inr hK4));clear aA hK0;go_enter Tryz.func86,Tryz.ntmps86;go_wp2_with fail
     refine (zBe K A n c L _ (hA.below hbx.below)).mono ?_;rintro e w1 ⟨rfl,ah⟩;have ab:=hbx.more ah;have c0:=ab.c0;go_wp2_with fail
     go_ret;exact ⟨zAu hf.out.symm,ab.below⟩
    ·have q4:decide (40 < K)=E:=by simpa using hK4
     by_cases h0:n=0
     ·have hf:=qH (zTe (K:=K) (L:=L) hno (by omega) (by omega));subst h0;clear aA hK0 hK4;go_enter Tryz.func86,Tryz.ntmps86;go_wp2_with fail
      refine (zBe K A 0 c L _ (hA.below hbx.below)).mono ?_;rintro e w1 ⟨rfl,ah⟩;have ab:=hbx.more ah;have c0:=ab.c0;have c1:=ab.c1;go_wp2_with fail
      go_ret;exact ⟨zAu hf.out.symm,ab.below⟩
     ·have hf:=zTf (K:=K) (L:=L) hno (by omega) (by omega);have q5:((n:Int)==0)=E:=by simp;omega
      have q50:(0:Int) < (n:Int):=by omega
      have q51:0 < n:=by omega
      have eV:n≤1000:=by omega
      have hpn:=zIe L n;obtain ⟨g,o,rfl,hg,hx,_⟩:=hA.at_ (k:=0) (by omega);obtain ⟨x,jp⟩:∃x,cN L n / 2=x:=⟨_,rfl⟩
      obtain ⟨q',vY⟩:∃q',(zBK L).length=q':=⟨_,rfl⟩
      have zN:=qH jp;have HQ:=qH vY;have aT:=hx.kind;simp only [Nat.zero_mul,Nat.add_zero] at aT;have Gs:=qH aA;have HV:=qH hf;have hgl:=hg;have hxb:x≤1000:=by omega
      have hvd:Hid (zBd K L=(isP (la L 0)&&decide (pN L n % 2=0)&&zBF K L&&((zBK L).length==pN L n+cN L n / 2+2))):=by
       show _=_;unfold zBd zKf;rw [aA]
      have m0:(0:Int)≤(pN L n:Int):=by omega
      clear aA hf jp vY h0 hK0 hK4 hno hx;have hzw:=aT;by_cases hk:(la L 0).kind=1
      ·have ag:((la L 0).kind != 1)=E:=by simpa using hk
       have HK:=qH (zFP hk);clear hk;by_cases hp:pN L n % 2=0
       ·have gB:((pN L n:Int) % 2 != 0)=E:=by simp;omega
        have HP:=qH hp;clear hp;have s3:IntKind.i64.wrap ((pN L n:Int) % 2)=(pN L n:Int) % 2:=IntWalk.i64_in _ (by omega);have s4:(pN L n:Int).tmod 2=(pN L n:Int) % 2:=Int.tmod_eq_emod_of_nonneg (by omega)
        cases hl:zBF K L with
        | false =>
         have zX:=qH hl;have HF:=qH (show zAy K L=3 by rw [HV.out,hvd.out,hl];simp);clear hl;go_enter Tryz.func86,Tryz.ntmps86;go_wp2_with fail
         refine (zBe K (Z ⟨g,o,U⟩) n c L _ (hA.below hbx.below)).mono ?_;rintro e w1 ⟨rfl,ah⟩;have ab:=hbx.more ah;have c0:=ab.c0;have c1:=ab.c1;go_wp2_with fail
         refine (zCX K (Z ⟨g,o,U⟩) n c L _ (hA.below ab.below)).mono ?_;rintro e w2 ⟨rfl,ac⟩;have aj:=ab.more ac;clear c0 c1 ah ab ac;have c0:=aj.c0;have c1:=aj.c1;have z2:w2.cell? ⟨g,o,U⟩=Z (D J (la L 0).kind):=(aj.below.cell (p:=⟨g,o,U⟩) hgl).trans hzw;have dn:=hA.below aj.below;go_wp2_with fail
         have Bl:w.heap.size < w2.heap.size:=World.block_lt_of_cell? w2 _ c0;refine zFe (C:=fun w'=>Below w2.heap.size w2 w') 54 [(1,.pointer (Z ⟨w.heap.size,0,U⟩)),(3,D J (pN L n:Nat))] (by kernel_rfl) (by kernel_rfl) rfl (by kernel_rfl) (by intro q hq;simp at hq;rcases hq with rfl | rfl<;>simp) (zAO (zAO rfl (by simp) rfl) (by simp) rfl) ((Below.refl _ _).drew) ?_;intro r hrc hrf;refine zAj (v:=.pointer (Z ⟨w.heap.size,1,U⟩)) rfl (fun w' hC=>zCY (p:=.pointer (Z ⟨w.heap.size,0,U⟩)) rfl rfl (zQW _ 0 1 (by decide) _)) ?_;refine zAj (v:=H (Z ⟨g,o,U⟩) n c) rfl (fun w' hC=>zCz (p:=.pointer (Z ⟨w.heap.size,1,U⟩)) rfl rfl (zVB ((hC.cell (p:=⟨w.heap.size,1,U⟩) Bl).trans c1))) ?_;refine zAj (v:=.pointer (Z ⟨g,o,U⟩)) rfl (fun w' hC=>q_ix (X:=H (Z ⟨g,o,U⟩) n c) (I:=D J 0) rfl rfl (hrc _) (zTd q50 _)) ?_;refine zAj (v:=.pointer (Z ⟨g,o,U⟩)) rfl (fun w' hC=>zCY (p:=.pointer (Z ⟨g,o,U⟩)) rfl rfl (zBl _ o 0 (by decide) _)) ?_;refine zAj (v:=D J (la L 0).kind) rfl (fun w' hC=>zCz (p:=.pointer (Z ⟨g,o,U⟩)) rfl rfl (zEV ((hC.cell (p:=⟨g,o,U⟩) (World.block_lt_of_cell? w2 _ z2)).trans z2))) ?_;refine zAj (v:=G (E)) rfl (fun w' hC=>zBO (X:=D J (la L 0).kind) (Y:=D J 1) rfl rfl (hrc _) (zVC ag)) ?_;refine zAj (v:=G (E)) rfl (fun w' hC=>zAV rfl rfl) ?_;refine zAd (b:=!(E)) (v:=D J (pN L n:Nat)) (zAk rfl rfl rfl) (fun h w' hC=>zAV rfl rfl) ?_;refine zAd (b:=!(E)) (v:=D J ((pN L n:Int) % 2)) (zAk rfl rfl rfl) (fun h w' hC=>zBO (X:=D J (pN L n:Nat)) (Y:=D J 2) rfl (cnd (u:=undef) h) (hrc _) (zVD _ (by omega))) ?_;refine zAd (b:=!(E)) (v:=G (E)) (zAk rfl rfl rfl) (fun h w' hC=>zBO (X:=D J ((pN L n:Int) % 2)) (Y:=D J 0) rfl (cnd (u:=undef) h) (hrc _) (zEE gB)) ?_;refine zAj (v:=G (E||false)) rfl (fun w' hC=>zKi rfl (fun _=>hrc _) rfl rfl) ?_;refine zAj (v:=G (E||false)) rfl (fun w' hC=>zAV rfl rfl) ?_;refine zAd (b:=!(E||false)) (v:=.agg #[D J K,H (Z ⟨g,o,U⟩) n c]) (zAk rfl rfl rfl) (fun h w' hC=>zCz (p:=.pointer (Z ⟨w.heap.size,0,U⟩)) rfl rfl (zJW ((hC.cell (p:=⟨w.heap.size,0,U⟩) Bl).trans c0) ((hC.cell (p:=⟨w.heap.size,1,U⟩) Bl).trans c1))) ?_;refine zAd (b:=!(E||false)) (v:=G (E)) (zAk rfl rfl rfl) (fun h w' hC=>zIw (vs:=#[.agg #[D J K,H (Z ⟨g,o,U⟩) n c]]) rfl (hrf _) (zXs (cnd (u:=undef) h)) (zOu _ _) ((zCW zX.out (Z ⟨g,o,U⟩) n c _ (dn.below hC) eV).mono fun _ _ ⟨he,hb⟩=>⟨he,zAa hC hb hC.size⟩)) ?_;refine zAd (b:=!(E||false)) (v:=G (!E)) (zAk rfl rfl rfl) (fun h w' hC=>q_un (X:=G (E)) rfl (cnd (u:=undef) h) (zWY _ _)) ?_;refine zAj (v:=G ((E||false)||(!E))) rfl (fun w' hC=>zKi rfl (fun _=>hrc _) rfl rfl) ?_;refine zAj (v:=G ((E||false)||(!E))) rfl (fun w' hC=>zAV rfl rfl) ?_;refine zAd (b:=!((E||false)||(!E))) (v:=undef) (zAk rfl rfl rfl) (fun h=>absurd h (by decide)) ?_;refine zAd (b:=!((E||false)||(!E))) (v:=undef) (zAk rfl rfl rfl) (fun h=>absurd h (by decide)) ?_;refine zAd (b:=!((E||false)||(!E))) (v:=undef) (zAk rfl rfl rfl) (fun h=>absurd h (by decide)) ?_;refine zAd (b:=!((E||false)||(!E))) (v:=undef) (zAk rfl rfl rfl) (fun h=>absurd h (by decide)) ?_;refine zAd (b:=!((E||false)||(!E))) (v:=undef) (zAk rfl rfl rfl) (fun h=>absurd h (by decide)) ?_;refine zAd (b:=!((E||false)||(!E))) (v:=undef) (zAk rfl rfl rfl) (fun h=>absurd h (by decide)) ?_;refine zAd (b:=!((E||false)||(!E))) (v:=G E) (zAk rfl rfl rfl) (fun h=>absurd h (by decide)) ?_;refine zAd (b:=!((E||false)||(!E))) (v:=G E) (zAk rfl rfl rfl) (fun h=>absurd h (by decide)) ?_;refine zAd (b:=!((E||false)||(!E))) (v:=G E) (zAk rfl rfl rfl) (fun h=>absurd h (by decide)) ?_;refine zAj (v:=G (((E||false)||(!E))||false)) rfl (fun w' hC=>zKi rfl (fun _=>hrc _) rfl rfl) ?_;intro wx hwx;clear hrc hrf r;have hbf:=aj.more hwx;clear c0 c1 z2 dn aj;simp only [zRp,frm,Act.put,List.setIfInBounds_toArray,List.set_cons_succ,List.set_cons_zero];go_wp2_with fail
         go_ret;exact ⟨zAu HF.out.symm,hbf.below⟩
        | true =>
         have zX:=qH hl
         have HG:=qH (show Good K L by
          have h1:=hl
          rw [←zCC] at h1
          simp only [Bool.and_eq_true] at h1
          exact zDu (by rw [Gs.out];omega) HK.out (by rw [Gs.out];exact HP.out) h1.1.1 h1.1.2 h1.2)
         have s1:IntKind.i64.wrap ((pN L n:Int)+(x:Int))=(pN L n:Int)+(x:Int):=IntWalk.i64_in _ (by omega);have s2:IntKind.i64.wrap ((pN L n:Int)+(x:Int)+2)=(pN L n:Int)+(x:Int)+2:=IntWalk.i64_in _ (by omega)
         cases hfl:((q':Int) != (pN L n:Int)+(x:Int)+2) with
         | true =>
          have HF:=qH (show zAy K L=3 by
           rw [HV.out,hvd.out,hl,HQ.out,zN.out]
           have:(q'==pN L n+x+2)=E:=by simp at hfl ⊢;omega
           rw [this];simp)
          clear hl;go_enter Tryz.func86,Tryz.ntmps86;go_wp2_with fail
          refine (zBe K (Z ⟨g,o,U⟩) n c L _ (hA.below hbx.below)).mono ?_;rintro e w1 ⟨rfl,ah⟩;have ab:=hbx.more ah;have c0:=ab.c0;have c1:=ab.c1;go_wp2_with fail
          refine (zCX K (Z ⟨g,o,U⟩) n c L _ (hA.below ab.below)).mono ?_;rintro e w2 ⟨rfl,ac⟩;have aj:=ab.more ac;clear c0 c1 ah ab ac;have c0:=aj.c0;have c1:=aj.c1;have z2:w2.cell? ⟨g,o,U⟩=Z (D J (la L 0).kind):=(aj.below.cell (p:=⟨g,o,U⟩) hgl).trans hzw;have dn:=hA.below aj.below;go_wp2_with fail
          have KP:=qH (show ∀wx,Below w2.heap.size w2 wx→(Below w2.heap.size w2 wx∧Boxed w wx K (Z ⟨g,o,U⟩) n c∧wx.cell? ⟨w.heap.size,0,U⟩=Z (D J K)∧wx.cell? ⟨w.heap.size,1,U⟩=Z (H (Z ⟨g,o,U⟩) n c)∧wx.cell? ⟨g,o,U⟩=Z (D J (la L 0).kind)) from fun wx h=>⟨h,aj.more h,(aj.more h).c0,(aj.more h).c1,(h.cell (World.block_lt_of_cell? w2 _ z2)).trans z2⟩)
          first
           | go_region_held3 (fun wx=>Below w2.heap.size w2 wx∧Boxed w wx K (Z ⟨g,o,U⟩) n c∧wx.cell? ⟨w.heap.size,0,U⟩=Z (D J K)∧wx.cell? ⟨w.heap.size,1,U⟩=Z (H (Z ⟨g,o,U⟩) n c)∧wx.cell? ⟨g,o,U⟩=Z (D J (la L 0).kind)) (first | assumption | exact KP.out _ (Below.refl _ _).drew | exact KP.out _ (zAa (And.left (by assumption)) (by assumption) (Below.size (And.left (by assumption))))) (first | (refine zFH (by rfl) ?_) | (go_at_call 134;refine (zCW zX.out (Z ⟨g,o,U⟩) n c _ (dn.below (And.left (by assumption))) eV).mono ?_;rintro e wx ⟨rfl,ai⟩) | (go_at_call 135;refine (zFI HQ.out (Z ⟨g,o,U⟩) n c _ (dn.below (And.left (by assumption))) HG.out eV).mono ?_;rintro e wy ⟨⟨A7,c7,rfl⟩,ao⟩) | (go_at_call 136;refine (zDG zN.out K (Z ⟨g,o,U⟩) c _ (dn.below (And.left (by assumption)))).mono ?_;rintro e wz ⟨rfl,bE⟩))
           | fail
          all_goals
           have hbf:=aj.more (And.left (show Below w2.heap.size w2 _∧_ by assumption));go_wp2_with fail
           go_ret;exact ⟨zAu HF.out.symm,hbf.below⟩
         | false =>
          have HF:=qH (show zAy K L=0 by
           rw [HV.out,hvd.out,hl,HQ.out,zN.out,HK.out]
           have:(q'==pN L n+x+2)=Q:=by simp at hfl ⊢;omega
           rw [this];simp [HP.out])
          clear hl;go_enter Tryz.func86,Tryz.ntmps86;go_wp2_with fail
          refine (zBe K (Z ⟨g,o,U⟩) n c L _ (hA.below hbx.below)).mono ?_;rintro e w1 ⟨rfl,ah⟩;have ab:=hbx.more ah;have c0:=ab.c0;have c1:=ab.c1;go_wp2_with fail
          refine (zCX K (Z ⟨g,o,U⟩) n c L _ (hA.below ab.below)).mono ?_;rintro e w2 ⟨rfl,ac⟩;have aj:=ab.more ac;clear c0 c1 ah ab ac;have c0:=aj.c0;have c1:=aj.c1;have z2:w2.cell? ⟨g,o,U⟩=Z (D J (la L 0).kind):=(aj.below.cell (p:=⟨g,o,U⟩) hgl).trans hzw;have dn:=hA.below aj.below;go_wp2_with fail
          have KP:=qH (show ∀wx,Below w2.heap.size w2 wx→(Below w2.heap.size w2 wx∧Boxed w wx K (Z ⟨g,o,U⟩) n c∧wx.cell? ⟨w.heap.size,0,U⟩=Z (D J K)∧wx.cell? ⟨w.heap.size,1,U⟩=Z (H (Z ⟨g,o,U⟩) n c)∧wx.cell? ⟨g,o,U⟩=Z (D J (la L 0).kind)) from fun wx h=>⟨h,aj.more h,(aj.more h).c0,(aj.more h).c1,(h.cell (World.block_lt_of_cell? w2 _ z2)).trans z2⟩)
          first
           | go_region_held3 (fun wx=>Below w2.heap.size w2 wx∧Boxed w wx K (Z ⟨g,o,U⟩) n c∧wx.cell? ⟨w.heap.size,0,U⟩=Z (D J K)∧wx.cell? ⟨w.heap.size,1,U⟩=Z (H (Z ⟨g,o,U⟩) n c)∧wx.cell? ⟨g,o,U⟩=Z (D J (la L 0).kind)) (first | assumption | exact KP.out _ (Below.refl _ _).drew | exact KP.out _ (zAa (And.left (by assumption)) (by assumption) (Below.size (And.left (by assumption))))) (first | (refine zFH (by rfl) ?_) | (go_at_call 134;refine (zCW zX.out (Z ⟨g,o,U⟩) n c _ (dn.below (And.left (by assumption))) eV).mono ?_;rintro e wx ⟨rfl,ai⟩) | (go_at_call 135;refine (zFI HQ.out (Z ⟨g,o,U⟩) n c _ (dn.below (And.left (by assumption))) HG.out eV).mono ?_;rintro e wy ⟨⟨A7,c7,rfl⟩,ao⟩) | (go_at_call 136;refine (zDG zN.out K (Z ⟨g,o,U⟩) c _ (dn.below (And.left (by assumption)))).mono ?_;rintro e wz ⟨rfl,bE⟩))
           | fail
          all_goals
           have hbf:=aj.more (And.left (show Below w2.heap.size w2 _∧_ by assumption));go_wp2_with fail
           go_ret;exact ⟨zAu HF.out.symm,hbf.below⟩
       ·have gB:((pN L n:Int) % 2 != 0)=Q:=by simp;omega
        have HF:=qH (show zAy K L=3 by rw [HV.out,hvd.out];simp [hp]);clear hp;go_enter Tryz.func86,Tryz.ntmps86;go_wp2_with fail
        refine (zBe K (Z ⟨g,o,U⟩) n c L _ (hA.below hbx.below)).mono ?_;rintro e w1 ⟨rfl,ah⟩;have ab:=hbx.more ah;have c0:=ab.c0;have c1:=ab.c1;go_wp2_with fail
        refine (zCX K (Z ⟨g,o,U⟩) n c L _ (hA.below ab.below)).mono ?_;rintro e w2 ⟨rfl,ac⟩;have aj:=ab.more ac;clear c0 c1 ah ab ac;have c0:=aj.c0;have c1:=aj.c1;have z2:w2.cell? ⟨g,o,U⟩=Z (D J (la L 0).kind):=(aj.below.cell (p:=⟨g,o,U⟩) hgl).trans hzw;have dn:=hA.below aj.below;go_wp2_with fail
        go_quiet (fail)
        go_wp2_with fail
        go_ret;exact ⟨zAu HF.out.symm,zAe aj.below _⟩
      ·have ag:((la L 0).kind != 1)=Q:=by simpa using hk
       have HF:=qH (show zAy K L=3 by rw [HV.out,hvd.out,zGB hk];simp);clear hk;go_enter Tryz.func86,Tryz.ntmps86;go_wp2_with fail
       refine (zBe K (Z ⟨g,o,U⟩) n c L _ (hA.below hbx.below)).mono ?_;rintro e w1 ⟨rfl,ah⟩;have ab:=hbx.more ah;have c0:=ab.c0;have c1:=ab.c1;go_wp2_with fail
       refine (zCX K (Z ⟨g,o,U⟩) n c L _ (hA.below ab.below)).mono ?_;rintro e w2 ⟨rfl,ac⟩;have aj:=ab.more ac;clear c0 c1 ah ab ac;have c0:=aj.c0;have c1:=aj.c1;have z2:w2.cell? ⟨g,o,U⟩=Z (D J (la L 0).kind):=(aj.below.cell (p:=⟨g,o,U⟩) hgl).trans hzw;have dn:=hA.below aj.below;go_wp2_with fail
       go_quiet (fail)
       go_wp2_with fail
       go_ret;exact ⟨zAu HF.out.symm,zAe aj.below _⟩
def OwnBl (w:World) (base:Nat) (A:Option Addr) (n c:Nat) (ZZ:List Bool):Prop:=Row w base 1 A n c (ZZ.map Value.bool)
theorem OwnBl.at_ {w:World} {base:Nat} {A:Option Addr} {n c i:Nat} {d:Nat→Bool} (h:OwnBl w base A n c ((List.range n).map d)) (hi:i < n) :
  ∃g o,A=Z ⟨g,o,U⟩∧w.cell? ⟨g,o+i,U⟩=Z (G (d i)):=by
 obtain ⟨g,off,rfl,_,hlt⟩:=Row.form h (by omega);exact ⟨g,off,rfl,Row.cell h (j:=i) (by simp [List.getElem?_range hi])⟩
theorem zLg:(Tryz.prog.info? 4).map (fun i=>(i.zero,i.size,i.bytes))=Z (Z (G E),1,1):=by kernel_rfl
theorem zXn (b:Bool) (w:World):(Instr.buildSlice 145 1 #[(0,G b)]).run Tryz.prog w=.ok (H (Z ⟨w.heap.size,0,U⟩) 1 1) (w.alloc (.cells #[G b] 4)):=by
 obtain ⟨i0,hi,aT,az,bt⟩:=info_parts zLg;refine run_buildSlice w _ _ 1 _ _ i0 _ Tryz.underlying145 hi aT (by rw [az];omega) (by rw [az];omega) ?_;rw [az]
 kernel_rfl
theorem zWZ {w:World} {ops:Array Oper} {rest:List Oper} {o:Oper} {a:Act} {Q':Exit→Act→World→Prop} (hgd:o.guard=U) (s x:Operand)
  (ho:o.op=.call { callee:=.builtin .append,args:=#[s,x],argTypes:=#[145,145] })
  {base:Nat} {A:Option Addr} {n c:Nat} {ZZ:List Bool} (hst:OwnBl w base A n c ZZ) (b:Bool) (hs:a.eval s=H A n c)
  (ZW:Nat) (hH:w.heap.size=ZW) (hx:a.eval x=H (Z ⟨ZW,0,U⟩) 1 1) (N:Nat) (hN:n+1=N) (hn:N≤1000000) (hbase:base≤w.heap.size)
  (h:∀A' c' w',OwnBl w' base A' N c' (ZZ++[b])→w.grownBy w' (blk A)→(∀k,blk A'=Z k→blk A=Z k∨w.heap.size≤k)→wpList Tryz.prog ops Q' rest (a.put o.dst (H A' N c')) w') :
  wpList Tryz.prog ops Q' (o :: rest) a (w.alloc (.cells #[G b] 4)):=by
 subst hH;obtain ⟨i0,hi,aT,az,bt⟩:=info_parts zLg
 refine zOy hgd s x 145 ho 4 i0 _ 1 1 Tryz.underlying145 hi aT az bt rfl (by decide) (Row.alloc hst _) (Src.new (m:=1) (cs:=[G b]) rfl)
  (by intro u hu;simp at hu;rcases hu with rfl;rfl) hs hx N hN (by unfold maxLen;omega) (by omega) (by simp;omega) ?_
 intro A' c' w' h1 h2 h3 _;refine h A' c' w' (by unfold OwnBl;rw [List.map_append];simpa using h1) (zAb (World.grownBy_alloc w _ _) h2) (fun k hk=>?_);rcases h3 k hk with h | h
 ·exact .inl h
 ·right;simp at h;omega
set_option maxRecDepth 100000 in
set_option maxHeartbeats 6400000 in
theorem zOv (K:Int) (A:Option Addr) (n c:Nat) (L:List Lt) (w:World) (hA:Lets w A n L) (hn:n≤400) :
  Calls Tryz.prog 165 #[.agg #[D J K,H A n c]] w fun e w'=>∃A' c',e=.returned (H A' n c')∧OwnBl w' w.heap.size A' n c' ((List.range n).map (dwn L))∧Below w.heap.size w w':=by
 have HA:=qH hA;have hbx:=Boxed.refl w K A n c;have xt:OwnBl (w.alloc (.cells #[D J K,H A n c] 55)) (w.heap.size+1) U 0 0 ((List.range 0).map (dwn L)):=Row.none_ _ _ _;clear hA;go_enter Tryz.func165,Tryz.ntmps165;go_wp2_with fail
 go_loopw [3,4] (fun v3 v4 wr=>∃(i:Nat) (A2:Option Addr) (c2:Nat),i≤n∧v4=D J i∧v3=H A2 i c2∧Boxed w wr K A n c∧OwnBl wr (w.heap.size+1) A2 i c2 ((List.range i).map (dwn L))) (fun _ v4 _=>n-(intOf v4).toNat)
 case atStart=>exact ⟨0,U,0,Nat.zero_le _,rfl,rfl,hbx,xt⟩
 case round =>
  obtain ⟨i,A2,c2,hi,rfl,rfl,hB,hD⟩:=hrel;clear hbx xt;have e0:=hB.c0;have e1:=hB.c1;have hsz:=hB.size;by_cases hlt:i < n
  ·have j0:(i:Int) < (n:Int):=by omega
   have HW:=qH (HA.out.below hB.below);obtain ⟨x,hx⟩:∃x,dwn L i=x:=⟨_,rfl⟩
   have HD:=qH (fun wx hL=>hx ▸ zGK K i A n c L wx hL hi);have HS:=qH (show (List.range i).map (dwn L)++[x]=(List.range (i+1)).map (dwn L) by rw [List.range_succ,List.map_append,←hx];rfl);clear hx;go_wp2_with fail
   refine (HD.out _ HW.out).mono ?_;rintro e w2 ⟨rfl,ab⟩;have rQ:=hB.more ab;have Cn:OwnBl w2 (w.heap.size+1) A2 i c2 ((List.range i).map (dwn L)):=Row.below hD ab;have fZ:=ab.size;clear hB hD ab e0 e1;go_wp2_with (at_builtin;refine zWZ rfl _ _ rfl Cn x rfl w2.heap.size rfl rfl (i+1) rfl (by omega) (by omega) ?_;intro A4 c4 w4 fu dF ta)
   have tU:=rQ.moreB (B:=w.heap.size+1) ((Below.refl _ _).grown dF (by omega) (fun k hk=>(Row.lt Cn k hk).1)) (Nat.le_refl _);rw [HS.out] at fu;clear dF ta Cn rQ;go_roundw
   case rel=>exact ⟨i+1,A4,c4,hlt,by go_num,rfl,tU,fu⟩
   case measure=>simp [intOf];omega
  ·have j0:¬(i:Int) < (n:Int):=by omega
   obtain rfl:i=n:=by omega
   have HR:=qH (show OwnBl wr w.heap.size A2 i c2 ((List.range i).map (dwn L)) from Row.mono hD (by omega));have HB:=qH hB.below;go_wp2_with fail
   go_ret;exact ⟨_,_,rfl,HR.out,HB.out⟩
set_option maxRecDepth 100000 in
set_option maxHeartbeats 6400000 in
theorem zRe (K:Int) (A:Option Addr) (n c:Nat) (L:List Lt) (i:Nat) (w:World) (hA:Lets w A n L) (hn:n≤400) (hi:i < n) :
  Calls Tryz.prog 125 #[.agg #[D J K,H A n c],D J i] w fun e w'=>e=.returned (G (isP (la L i)&&dwn L i))∧Below w.heap.size w w':=by
 have hbx:=Boxed.refl w K A n c;have e0:=hbx.c0;have e1:=hbx.c1;have HA:=qH (hA.below hbx.below);have j0:(0:Int)≤(i:Int):=by omega
 have j1:(i:Int) < (n:Int):=by omega
 obtain ⟨g,o,rfl,hg,hat,_⟩:=(hA.below hbx.below).at_ hi;obtain ⟨b,hbp⟩:∃b,isP (la L i)=b:=⟨_,rfl⟩
 obtain ⟨d,hd⟩:∃d,dwn L i=d:=⟨_,rfl⟩
 have x0:=hat.kind;have k0:((la L i).kind==1)=b:=hbp;have mD:=qH hd;have HDo:=qH (fun wx (h:Lets wx (Z ⟨g,o,U⟩) n L)=>zOv K (Z ⟨g,o,U⟩) n c L wx h hn);rw [hbp,hd];generalize (la L i).kind=kd at x0 k0;clear hA hat hbp hd
 cases b with
 | false =>
  have HB:=qH hbx.below;go_enter Tryz.func125,Tryz.ntmps125;go_wp2_with fail
  go_ret;exact ⟨rfl,HB.out⟩
 | true =>
  go_enter Tryz.func125,Tryz.ntmps125;go_wp2_with fail
  generalize w.alloc (.cells #[D J K,H (Z ⟨g,o,U⟩) n c] 55)=X at hbx e0 e1 HA x0 ⊢;refine (HDo.out _ HA.out).mono ?_;rintro e w2 ⟨A',c',rfl,hD,ab⟩;have HB:=qH (zAa hbx.below ab (by have:=hbx.size;omega));obtain ⟨g2,o2,rfl,wL⟩:=hD.at_ hi;rw [mD.out] at wL;clear hD ab hbx e0 e1 x0;go_wp2_with fail
  go_ret;exact ⟨rfl,HB.out⟩
set_option maxRecDepth 100000 in
set_option maxHeartbeats 3200000 in
theorem zRf (K:Int) (A:Option Addr) (n c:Nat) (i:Nat) (w:World) (hn:n≤400) (hi:i≤1000) (h0:0 < n) :
  Calls Tryz.prog 126 #[.agg #[D J K,H A n c],D J i] w fun e w'=>e=.returned (D J ((i % n:Nat):Int))∧Below w.heap.size w w':=by
 have hbx:=Boxed.refl w K A n c;have e1:=hbx.c1;have HB:=qH hbx.below;obtain ⟨t,ht⟩:∃t,i % n=t:=⟨_,rfl⟩
 have htn:t < n:=by rw [←ht];exact Nat.mod_lt _ h0
 have q3:(i:Int) % (n:Int)=(t:Int):=by rw [←ht];simp
 have gw:(i:Int).tmod (n:Int)=(t:Int):=by rw [Int.tmod_eq_emod_of_nonneg (by omega)];exact q3
 have q4:((t:Int)+(n:Int)) % (n:Int)=(t:Int):=by rw [Int.add_emod_right];exact Int.emod_eq_of_lt (by omega) (by omega)
 have q12:((t:Int)+(n:Int)).tmod (n:Int)=(t:Int):=by rw [Int.tmod_eq_emod_of_nonneg (by omega)];exact q4
 have gv:IntKind.i64.wrap (t:Int)=(t:Int):=IntWalk.i64_in _ (by omega);have oP:IntKind.i64.wrap ((t:Int)+(n:Int))=(t:Int)+(n:Int):=IntWalk.i64_in _ (by omega);have AJ:¬n=0:=by omega
 rw [ht];clear ht;go_enter Tryz.func126,Tryz.ntmps126;go_wp2_with fail
 go_ret;exact ⟨rfl,HB.out⟩
theorem Blk.storeL {w:World} {g:Nat} {t:TypeId} {v0 v1 v2 v3 v4 v5:Value} (h:Blk w g t #[v0,v1,v2,v3,v4,v5]) (u0 u1 u2 u3 u4 u5:Value) :
  Blk ((((((w.setCell ⟨g,0,U⟩ u0).setCell ⟨g,1,U⟩ u1).setCell ⟨g,2,U⟩ u2).setCell ⟨g,3,U⟩ u3).setCell ⟨g,4,U⟩ u4).setCell ⟨g,5,U⟩ u5) g t #[u0,u1,u2,u3,u4,u5]:=(((((h.set_ 0 _).set_ 1 _).set_ 2 _).set_ 3 _).set_ 4 _).set_ 5 _
theorem zBb {a w:World} {g B:Nat} (h:Below B a w) (hB:B≤g) (u0 u1 u2 u3 u4 u5:Value) :
  Below B a ((((((w.setCell ⟨g,0,U⟩ u0).setCell ⟨g,1,U⟩ u1).setCell ⟨g,2,U⟩ u2).setCell ⟨g,3,U⟩ u3).setCell ⟨g,4,U⟩ u4).setCell ⟨g,5,U⟩ u5) :=
 (((((h.setCell (p:=⟨g,0,U⟩) hB _).setCell (p:=⟨g,1,U⟩) hB _).setCell (p:=⟨g,2,U⟩) hB _).setCell (p:=⟨g,3,U⟩) hB _).setCell (p:=⟨g,4,U⟩) hB _).setCell (p:=⟨g,5,U⟩) hB _
set_option maxRecDepth 100000 in
set_option maxHeartbeats 6400000 in
theorem zVE (K:Int) (A:Option Addr) (n c:Nat) (L:List Lt) (i:Nat) (w:World) (hA:Lets w A n L) (hn:n≤400) (hi:i≤1000) (h0:0 < n) :
  Calls Tryz.prog 137 #[.agg #[D J K,H A n c],D J i] w fun e w'=>e=.returned (.agg #[D J (la L (i % n)).kind,D J (la L (i % n)).gate,D J (la L (i % n)).rank,D J (la L (i % n)).id,D J (la L (i % n)).sign,G (la L (i % n)).over])∧Below w.heap.size w w':=by
 obtain ⟨t,ht⟩:∃t,i % n=t:=⟨_,rfl⟩
 have htn:t < n:=by rw [←ht];exact Nat.mod_lt _ h0
 have hba:Below w.heap.size w ((w.alloc (.cells #[D J K,H A n c] 55)).alloc (.cells #[D J 0,D J 0,D J 0,D J 0,D J 0,G E] 76)):=((Below.refl _ _).alloc (Nat.le_refl _) _).alloc (by simp) _;have ag:Blk ((w.alloc (.cells #[D J K,H A n c] 55)).alloc (.cells #[D J 0,D J 0,D J 0,D J 0,D J 0,G E] 76)) w.heap.size 55 #[D J K,H A n c]:=(Blk.new w _ _).alloc _;have hk2:Blk ((w.alloc (.cells #[D J K,H A n c] 55)).alloc (.cells #[D J 0,D J 0,D J 0,D J 0,D J 0,G E] 76)) (w.heap.size+1) 76 #[D J 0,D J 0,D J 0,D J 0,D J 0,G E]:=heap_alloc2_new w _ _;have dn:=hA.below hba;obtain ⟨g,o,rfl,hg,hat,_⟩:=dn.at_ htn;have pA:=qH (fun wx=>ht ▸ zRf K (Z ⟨g,o,U⟩) n c i wx hn hi h0);rw [ht];have j0:(0:Int)≤(t:Int):=by omega
 have j1:(t:Int) < (n:Int):=by omega
 obtain ⟨x0,x1,x2,x3,x4,x5⟩:=hat;generalize la L t=x at x0 x1 x2 x3 x4 x5 ⊢;go_enter Tryz.func137,Tryz.ntmps137;go_wp2_with fail
 generalize (w.alloc (.cells #[D J K,H (Z ⟨g,o,U⟩) n c] 55)).alloc (.cells #[D J 0,D J 0,D J 0,D J 0,D J 0,G E] 76)=X at hba ag hk2 dn hg x0 x1 x2 x3 x4 x5 ⊢;obtain ⟨b4,aj⟩:∃b,b=w.heap.size+1:=⟨_,rfl⟩
 rw [←aj] at hk2 ⊢;have HB4:=qH aj;obtain ⟨c0,c1⟩:=cQ2 ag;have GH:=qH hba;have oc:=qH ag;have z7:=qH hk2;have eE:=qH (show g < X.heap.size∧X.cell? ⟨g,o+t*6,U⟩=Z (D J x.kind)∧X.cell? ⟨g,o+t*6+1,U⟩=Z (D J x.gate)∧X.cell? ⟨g,o+t*6+2,U⟩=Z (D J x.rank)∧X.cell? ⟨g,o+t*6+3,U⟩=Z (D J x.id)∧X.cell? ⟨g,o+t*6+4,U⟩=Z (D J x.sign)∧X.cell? ⟨g,o+t*6+5,U⟩=Z (G x.over) from ⟨hg,x0,x1,x2,x3,x4,x5⟩);clear hba ag hk2 dn hg x0 x1 x2 x3 x4 x5 aj;go_region_with (go_at_call 126;refine (pA.out _).mono ?_;rintro e wd ⟨rfl,hbe⟩;have hbd:Below X.heap.size X wd:=zAa ((Below.refl X.heap.size X).drew) hbe (Nat.le_refl _);have uI:=oc.out.below hbd oc.out.lt;have iC:=z7.out.below hbd z7.out.lt;have y0:wd.cell? ⟨b4,0,U⟩=Z (D J 0):=(iC.cell 0).trans rfl;have f0:=iC.frozen 0;have y1:wd.cell? ⟨b4,1,U⟩=Z (D J 0):=(iC.cell 1).trans rfl;have f1:=iC.frozen 1;have y2:wd.cell? ⟨b4,2,U⟩=Z (D J 0):=(iC.cell 2).trans rfl;have f2:=iC.frozen 2;have y3:wd.cell? ⟨b4,3,U⟩=Z (D J 0):=(iC.cell 3).trans rfl;have f3:=iC.frozen 3;have y4:wd.cell? ⟨b4,4,U⟩=Z (D J 0):=(iC.cell 4).trans rfl;have f4:=iC.frozen 4;have y5:wd.cell? ⟨b4,5,U⟩=Z (G E):=(iC.cell 5).trans rfl;have f5:=iC.frozen 5;have d0:wd.cell? ⟨w.heap.size,0,U⟩=Z (D J K):=(uI.cell 0).trans rfl;have d1:wd.cell? ⟨w.heap.size,1,U⟩=Z (H (Z ⟨g,o,U⟩) n c):=(uI.cell 1).trans rfl;have x0:wd.cell? ⟨g,o+t*6,U⟩=Z (D J x.kind):=(hbd.cell (p:=⟨g,o+t*6,U⟩) eE.out.1).trans eE.out.2.1;have x1:wd.cell? ⟨g,o+t*6+1,U⟩=Z (D J x.gate):=(hbd.cell (p:=⟨g,o+t*6+1,U⟩) eE.out.1).trans eE.out.2.2.1;have x2:wd.cell? ⟨g,o+t*6+2,U⟩=Z (D J x.rank):=(hbd.cell (p:=⟨g,o+t*6+2,U⟩) eE.out.1).trans eE.out.2.2.2.1;have x3:wd.cell? ⟨g,o+t*6+3,U⟩=Z (D J x.id):=(hbd.cell (p:=⟨g,o+t*6+3,U⟩) eE.out.1).trans eE.out.2.2.2.2.1;have x4:wd.cell? ⟨g,o+t*6+4,U⟩=Z (D J x.sign):=(hbd.cell (p:=⟨g,o+t*6+4,U⟩) eE.out.1).trans eE.out.2.2.2.2.2.1;have x5:wd.cell? ⟨g,o+t*6+5,U⟩=Z (G x.over):=(hbd.cell (p:=⟨g,o+t*6+5,U⟩) eE.out.1).trans eE.out.2.2.2.2.2.2)
 all_goals
  have hS:=Blk.storeL iC (D J x.kind) (D J x.gate) (D J x.rank) (D J x.id) (D J x.sign) (G x.over);have hB:=zBb (zAa GH.out hbd GH.out.size) (show w.heap.size≤b4 by have:=HB4.out;omega) (D J x.kind) (D J x.gate) (D J x.rank) (D J x.id) (D J x.sign) (G x.over);go_wp2_with fail
  exact zAn rfl rfl hS Tryz.underlying76 rfl (by kernel_rfl) rfl ⟨rfl,hB⟩
theorem zXa {L:List Lt} {i t n:Nat} {p q:Lt} (hL:L.length=n) (ht:(i+1) % n=t) (hp:la L i=p) (hq:la L t=q) :
  poB L i=(!(isP p&&dwn L i)||(isP q&&(q.gate-p.gate==1||p.gate-q.gate==1))):=by
 unfold poB neB nxL;rw [hL,ht,hp,hq]
theorem zXb {K:Int} {A:Option Addr} {n c:Nat} {L:List Lt} {i t:Nat} {q:Lt} (ht:i % n=t) (hq:la L t=q) (w:World) (hA:Lets w A n L) (hn:n≤400) (hi:i≤1000) (h0:0 < n) :
  Calls Tryz.prog 137 #[.agg #[D J K,H A n c],D J i] w fun e w'=>e=.returned (.agg #[D J q.kind,D J q.gate,D J q.rank,D J q.id,D J q.sign,G q.over])∧Below w.heap.size w w':=by
 subst ht;subst hq;exact zVE K A n c L i w hA hn hi h0
theorem zTg {K:Int} {A:Option Addr} {n c:Nat} {L:List Lt} {i:Nat} {b:Bool} (hb:(isP (la L i)&&dwn L i)=b) (w:World) (hA:Lets w A n L) (hn:n≤400) (hi:i < n) :
  Calls Tryz.prog 125 #[.agg #[D J K,H A n c],D J i] w fun e w'=>e=.returned (G b)∧Below w.heap.size w w':=by
 subst hb;exact zRe K A n c L i w hA hn hi
end Go.Proofs.YtlmdfmnbcndhoaaGreatDoor
