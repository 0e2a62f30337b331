/-
  Contracts: the document's Copy, Place, Forget, Insert. Conditions: the letters read.
-/
import Derived.Test.YtkjcmppaapbabaaDoorN4
import Derived.Test.YtkjcmppaapbabaaDoorS1
import Derived.Deep.DeepCutAuto
namespace Go.Proofs.YtkjcmppaapbabaaDoor
open Go.RowKit
/-- What a function of the document returns that makes a code: the code, in memory of the call's own. -/
def GivesC (w : World) (K : Int) (L : List Lt) (e : Ending) (w' : World) : Prop :=
  ∃ (A' : Option Addr) (n' c' : Nat), e = .returned (.agg #[.int .i64 K, .slice A' n' c']) ∧ OwnL w' w.heap.size A' n' c' L ∧ Below w.heap.size w w'
/-- What a function of the program returns that makes a code. -/
def GivesCE (w : World) (K : Int) (L : List Lt) (E : Int) (e : Ending) (w' : World) : Prop :=
  ∃ (A' : Option Addr) (n' c' : Nat), e = .returned (.tuple #[.agg #[.int .i64 K, .slice A' n' c'], .int .i64 E]) ∧ OwnL w' w.heap.size A' n' c' L ∧ Below w.heap.size w w'
/-- 'append(own, letters...)' in a region that draws its order. -/
theorem stepL {w : World} {ops : Array Oper} {o : Oper} {a : Act} {K : Act → World → Prop} {Q' : Exit → Act → World → Prop} {E : Prop} (hgd : o.guard = none) (s x : Operand)
    (ho : o.op = .call { callee := .builtin .append, args := #[s, x], argTypes := #[22, 22] })
    {base : Nat} {A : Option Addr} {n c : Nat} {L : List Lt} {B : Option Addr} {m d : Nat} {M : List Lt} (hs : a.eval s = .slice A n c) (hx : a.eval x = .slice B m d)
    (hL : OwnL w base A n c L) (hM : Lets w B m M) (N : Nat) (hN : n + m = N) (hn : N ≤ 2932031007402) (hbase : base ≤ w.heap.size)
    (h : ∀ A' c' w', OwnL w' base A' N c' (L ++ M) → w.grownBy w' (blk A) → (∀ k, blk A' = some k → blk A = some k ∨ w.heap.size ≤ k) → K (a.put o.dst (.slice A' N c')) w') :
    if Region.wanted o (yielded ops a.tmps) = true then Oper.wp Tryd.prog o a w K Q' else E := by
  obtain ⟨i0, hi, hz0, hz1, hz2⟩ := info_parts ltInfo
  refine stepR hgd s x 22 ho 46 i0 _ 6 48 Tryd.underlying22 hi hz0 hz1 hz2 rfl (by decide) hL.row hM.src
    (by
      intro u hu
      obtain ⟨q, _, hq⟩ := List.mem_flatMap.1 hu
      simp [ltC] at hq
      rcases hq with rfl | rfl | rfl | rfl | rfl | rfl <;> rfl) hs hx N hN (by unfold maxLen; omega) (by omega) hbase ?_
  intro A' c' w' h1 h2 h3 _
  refine h A' c' w' ⟨by rw [List.flatMap_append]; exact h1, fun y hy => ?_, hn⟩ h2 h3
  rcases List.mem_append.1 hy with hy | hy
  · exact hL.fits y hy
  · exact hM.fits y hy
set_option maxRecDepth 100000 in
set_option maxHeartbeats 3200000 in
theorem cref_Copy (K : Int) (A : Option Addr) (n c : Nat) (L : List Lt) (w : World) (hA : Lets w A n L) :
    Calls Tryd.prog 60 #[.agg #[.int .i64 K, .slice A n c]] w (GivesC w K L) := by
  have hle := hA.le
  have hbc2 := build_code2
  have hbx : Boxed w ((w.alloc (.cells #[.int .i64 K, .slice A n c] 24)).alloc (.cells #[.int .i64 0, .slice none 0 0] 24)) K A n c := (Boxed.refl w K A n c).alloc _
  have hR0 : Blk ((w.alloc (.cells #[.int .i64 K, .slice A n c] 24)).alloc (.cells #[.int .i64 0, .slice none 0 0] 24)) (w.heap.size + 1) 24 #[.int .i64 0, .slice none 0 0] := heap_alloc2_new w _ _
  go_enter Tryd.func60, Tryd.ntmps60
  go_wp2_with fail
  generalize (w.alloc (.cells #[.int .i64 K, .slice A n c] 24)).alloc (.cells #[.int .i64 0, .slice none 0 0] 24) = X at hbx hR0 ⊢
  have x0 := hbx.c0
  have x1 := hbx.c1
  have hX := hR0.lt
  have f0 := hR0.frozen 0
  have f1 := hR0.frozen 1
  go_region_law (first
    | ((refine stepL (base := X.heap.size) (A := none) (n := 0) (c := 0) (L := []) (B := A) (m := n) (d := c) (M := L) rfl (.const (.slice none 0 0)) (.tmp 6) (by rfl) (by rfl) (by rfl) (OwnL.nil _ _) ((hA.below hbx.below).below (Below.refl _ _).drew) n (by omega) (by omega) (Nat.le_refl _) ?_)
       intro A1 c1 w1 hown hg hl
       have kg : X.grownBy w1 (blk none) := ⟨hg.os, hg.tape, hg.output, hg.size, hg.block⟩
       have hb1 : Below X.heap.size X w1 := (Below.refl _ _).grown kg (Nat.le_refl _) (fun k hk => by cases hk)
       have y0 := (hb1.cell (p := ⟨w.heap.size, 0, none⟩) (by simp; omega)).trans x0
       have r0 : w1.cell? ⟨w.heap.size + 1, 0, none⟩ = some (.int .i64 0) := ((hR0.below hb1 hX).cell 0).trans rfl
       have r1 : w1.cell? ⟨w.heap.size + 1, 1, none⟩ = some (.slice none 0 0) := ((hR0.below hb1 hX).cell 1).trans rfl
       have g0 := (hR0.below hb1 hX).frozen 0
       have g1 := (hR0.below hb1 hX).frozen 1))
  all_goals
    go_wp2_with fail
    (try simp only [Exit.inBlock, Exit.then])
    have hS : Blk ((w1.setCell ⟨w.heap.size + 1, 0, none⟩ (.int .i64 K)).setCell ⟨w.heap.size + 1, 1, none⟩ (.slice A1 n c1)) (w.heap.size + 1) 24 #[.int .i64 K, .slice A1 n c1] := ((hR0.below hb1 hX).set_ 0 _).set_ 1 _
    refine ret_cellB rfl rfl hS Tryd.underlying24 rfl (by kernel_rfl) rfl ?_
    have gS := only_setCell (only_setCell (World.grownBy.refl w1 (some (w.heap.size + 1))) (p := ⟨w.heap.size + 1, 0, none⟩) (.inl rfl) (.int .i64 K)) (p := ⟨w.heap.size + 1, 1, none⟩) (.inl rfl) (.slice A1 n c1)
    refine ⟨A1, n, c1, rfl, ?_, ((below_chain hbx.below hb1 (by omega)).setCell (p := ⟨w.heap.size + 1, 0, none⟩) (by simp) (.int .i64 K)).setCell (p := ⟨w.heap.size + 1, 1, none⟩) (by simp) (.slice A1 n c1)⟩
    refine ⟨(hown.row.kept gS ?_).mono (by omega), hown.fits, hown.le⟩
    cases hb : blk A1 with
    | none => exact .inl rfl
    | some q => exact .inr (by have := (hown.row.lt q hb).1; simp; omega)
def placeB (K : Int) (L : List Lt) (g l : Int) : Bool := decide (0 ≤ g) && decide (g ≤ K) && decide (0 ≤ l) && decide (l ≤ (gN L g L.length : Int))
set_option maxRecDepth 100000 in
set_option maxHeartbeats 3200000 in
theorem cref_Place (K g l : Int) (A : Option Addr) (n c : Nat) (L : List Lt) (w : World) (hA : Lets w A n L) :
    Calls Tryd.prog 39 #[.agg #[.int .i64 K, .slice A n c], .agg #[.int .i64 g, .int .i64 l]] w fun e w' => e = .returned (.bool (placeB K L g l)) ∧ Below w.heap.size w w' := by
  have hle := hA.le
  have HLn := Lib.hid hA.len
  have hbx : Boxed w ((w.alloc (.cells #[.int .i64 K, .slice A n c] 24)).alloc (.cells #[.int .i64 g, .int .i64 l] 50)) K A n c := (Boxed.refl w K A n c).alloc _
  have hP0 : Blk ((w.alloc (.cells #[.int .i64 K, .slice A n c] 24)).alloc (.cells #[.int .i64 g, .int .i64 l] 50)) (w.heap.size + 1) 50 #[.int .i64 g, .int .i64 l] := heap_alloc2_new w _ _
  go_enter Tryd.func39, Tryd.ntmps39
  go_upto_region 1 with fail
  generalize (w.alloc (.cells #[.int .i64 K, .slice A n c] 24)).alloc (.cells #[.int .i64 g, .int .i64 l] 50) = X at hbx hP0 ⊢
  have c0 := hbx.c0
  have c1 := hbx.c1
  have p0 : X.cell? ⟨w.heap.size + 1, 0, none⟩ = some (.int .i64 g) := (hP0.cell 0).trans rfl
  have p1 : X.cell? ⟨w.heap.size + 1, 1, none⟩ = some (.int .i64 l) := (hP0.cell 1).trans rfl
  have hl1 := hP0.lt
  have hl0 : w.heap.size < X.heap.size := by omega
  have hAX := hA.below hbx.below
  obtain ⟨b1, hb1⟩ : ∃ b, decide (0 ≤ g) = b := ⟨_, rfl⟩
  obtain ⟨b2, hb2⟩ : ∃ b, decide (g ≤ K) = b := ⟨_, rfl⟩
  obtain ⟨b3, hb3⟩ : ∃ b, decide (0 ≤ l) = b := ⟨_, rfl⟩
  obtain ⟨b4, hb4⟩ : ∃ b, decide (l ≤ ((gN L g n : Nat) : Int)) = b := ⟨_, rfl⟩
  refine wk_region (C := fun w' => Below X.heap.size X w') 29 [(2, .pointer (some ⟨w.heap.size, 0, none⟩)), (3, .pointer (some ⟨w.heap.size + 1, 0, none⟩))] (by kernel_rfl) (by kernel_rfl) rfl (by kernel_rfl) (by intro q hq; simp at hq; rcases hq with rfl | rfl <;> simp) (frm_same (frm_same rfl (by simp) rfl) (by simp) rfl) ((Below.refl _ _).drew) ?_
  intro r hrc hrf
  refine wk_one (v := .pointer (some ⟨(w.heap.size + 1), 0, none⟩)) rfl (fun w' hC => q_fa (p := .pointer (some ⟨(w.heap.size + 1), 0, none⟩)) rfl rfl (fa_plc _ 0 0 (by decide) _)) ?_
  refine wk_one (v := .int .i64 g) rfl (fun w' hC => q_ld (p := .pointer (some ⟨(w.heap.size + 1), 0, none⟩)) rfl rfl (ld_int ((hC.cell (p := ⟨(w.heap.size + 1), 0, none⟩) hl1).trans p0))) ?_
  refine wk_one (v := .bool (b1)) rfl (fun w' hC => q_bin (X := .int .i64 g) (Y := .int .i64 0) rfl rfl (hrc _) (bo_geq hb1)) ?_
  refine wk_one (v := .bool (b1)) rfl (fun w' hC => q_move rfl rfl) ?_
  refine wk_grd (b := b1) (v := .pointer (some ⟨(w.heap.size + 1), 0, none⟩)) (want_t rfl rfl rfl) (fun h w' hC => q_fa (p := .pointer (some ⟨(w.heap.size + 1), 0, none⟩)) rfl rfl (fa_plc _ 0 0 (by decide) _)) ?_
  refine wk_grd (b := b1) (v := .int .i64 g) (want_t rfl rfl rfl) (fun h w' hC => q_ld (p := .pointer (some ⟨(w.heap.size + 1), 0, none⟩)) rfl (cnd h) (ld_int ((hC.cell (p := ⟨(w.heap.size + 1), 0, none⟩) hl1).trans p0))) ?_
  refine wk_grd (b := b1) (v := .pointer (some ⟨w.heap.size, 0, none⟩)) (want_t rfl rfl rfl) (fun h w' hC => q_fa (p := .pointer (some ⟨w.heap.size, 0, none⟩)) rfl rfl (fa_code _ 0 0 (by decide) _)) ?_
  refine wk_grd (b := b1) (v := .int .i64 K) (want_t rfl rfl rfl) (fun h w' hC => q_ld (p := .pointer (some ⟨w.heap.size, 0, none⟩)) rfl (cnd h) (ld_int ((hC.cell (p := ⟨w.heap.size, 0, none⟩) hl0).trans c0))) ?_
  refine wk_grd (b := b1) (v := .bool (b2)) (want_t rfl rfl rfl) (fun h w' hC => q_bin (X := .int .i64 g) (Y := .int .i64 K) rfl (cnd h) (cnd h) (bo_leq hb2)) ?_
  refine wk_one (v := .bool (b1 && b2)) rfl (fun w' hC => q_and rfl (fun _ => hrc _) rfl rfl) ?_
  refine wk_one (v := .bool (b1 && b2)) rfl (fun w' hC => q_move rfl rfl) ?_
  refine wk_grd (b := b1 && b2) (v := .pointer (some ⟨(w.heap.size + 1), 1, none⟩)) (want_t rfl rfl rfl) (fun h w' hC => q_fa (p := .pointer (some ⟨(w.heap.size + 1), 0, none⟩)) rfl rfl (fa_plc _ 0 1 (by decide) _)) ?_
  refine wk_grd (b := b1 && b2) (v := .int .i64 l) (want_t rfl rfl rfl) (fun h w' hC => q_ld (p := .pointer (some ⟨(w.heap.size + 1), 1, none⟩)) rfl (cnd h) (ld_int ((hC.cell (p := ⟨(w.heap.size + 1), 1, none⟩) hl1).trans p1))) ?_
  refine wk_grd (b := b1 && b2) (v := .bool (b3)) (want_t rfl rfl rfl) (fun h w' hC => q_bin (X := .int .i64 l) (Y := .int .i64 0) rfl (cnd h) (hrc _) (bo_geq hb3)) ?_
  refine wk_one (v := .bool ((b1 && b2) && b3)) rfl (fun w' hC => q_and rfl (fun _ => hrc _) rfl rfl) ?_
  refine wk_one (v := .bool ((b1 && b2) && b3)) rfl (fun w' hC => q_move rfl rfl) ?_
  refine wk_grd (b := (b1 && b2) && b3) (v := .pointer (some ⟨(w.heap.size + 1), 1, none⟩)) (want_t rfl rfl rfl) (fun h w' hC => q_fa (p := .pointer (some ⟨(w.heap.size + 1), 0, none⟩)) rfl rfl (fa_plc _ 0 1 (by decide) _)) ?_
  refine wk_grd (b := (b1 && b2) && b3) (v := .int .i64 l) (want_t rfl rfl rfl) (fun h w' hC => q_ld (p := .pointer (some ⟨(w.heap.size + 1), 1, none⟩)) rfl (cnd h) (ld_int ((hC.cell (p := ⟨(w.heap.size + 1), 1, none⟩) hl1).trans p1))) ?_
  refine wk_grd (b := (b1 && b2) && b3) (v := .agg #[.int .i64 K, .slice A n c]) (want_t rfl rfl rfl) (fun h w' hC => q_ld (p := .pointer (some ⟨w.heap.size, 0, none⟩)) rfl rfl (ld_code ((hC.cell (p := ⟨w.heap.size, 0, none⟩) hl0).trans c0) ((hC.cell (p := ⟨w.heap.size, 1, none⟩) hl0).trans c1))) ?_
  refine wk_grd (b := (b1 && b2) && b3) (v := .pointer (some ⟨(w.heap.size + 1), 0, none⟩)) (want_t rfl rfl rfl) (fun h w' hC => q_fa (p := .pointer (some ⟨(w.heap.size + 1), 0, none⟩)) rfl rfl (fa_plc _ 0 0 (by decide) _)) ?_
  refine wk_grd (b := (b1 && b2) && b3) (v := .int .i64 g) (want_t rfl rfl rfl) (fun h w' hC => q_ld (p := .pointer (some ⟨(w.heap.size + 1), 0, none⟩)) rfl (cnd h) (ld_int ((hC.cell (p := ⟨(w.heap.size + 1), 0, none⟩) hl1).trans p0))) ?_
  refine wk_grd (b := (b1 && b2) && b3) (v := .int .i64 (gN L g n : Nat)) (want_t rfl rfl rfl) (fun h w' hC => q_call (vs := #[.agg #[.int .i64 K, .slice A n c], .int .i64 g]) rfl (hrf _) (map2 (cnd h) (cnd h)) (en_In _ _) ((ref_In K g A n c L _ (hAX.below hC)).mono fun _ _ ⟨he, hb⟩ => ⟨he, below_chain hC hb hC.size⟩)) ?_
  refine wk_grd (b := (b1 && b2) && b3) (v := .bool (b4)) (want_t rfl rfl rfl) (fun h w' hC => q_bin (X := .int .i64 l) (Y := .int .i64 (gN L g n : Nat)) rfl (cnd h) (cnd h) (bo_leq hb4)) ?_
  refine wk_one (v := .bool (((b1 && b2) && b3) && b4)) rfl (fun w' hC => q_and rfl (fun _ => hrc _) rfl rfl) ?_
  refine wk_one (v := .bool (((b1 && b2) && b3) && b4)) rfl (fun w' hC => q_assign rfl rfl) ?_
  intro wx hwx
  have hf := Lib.hid (show (((b1 && b2) && b3) && b4) = placeB K L g l by subst hb1 hb2 hb3 hb4; unfold placeB; rw [HLn.out])
  clear hrc hrf r
  simp only [outE, frm, Act.put, List.setIfInBounds_toArray, List.set_cons_succ, List.set_cons_zero]
  clear c0 c1 p0 p1 hP0 hb1 hb2 hb3 hb4
  go_wp2_with fail
  go_ret
  exact ⟨ret_bool hf.out, below_chain hbx.below hwx (by omega)⟩
end Go.Proofs.YtkjcmppaapbabaaDoor
