/-
  Contracts: the document's Copy, Place, Forget, Insert. Conditions: the letters read.
  Contracts: the document's Forget. Conditions: the letters read and are small.
  Contracts: rotated; the document's Swap; the program's Swap. Conditions: the letters read and are tame.
  Contracts: the program's Swap. Conditions: the letters read.
-/
import Derived.Test.YtkjcmppaapbabaaDoorN4
import Derived.Test.YtkjcmppaapbabaaDoorJI
import Derived.Deep.DeepCutAuto
import Derived.Deep.RegionHeld3
import Derived.Test.YtkjcmppaapbabaaDoorJH
import Derived.Deep.RegionLaw
import Derived.BigRegion
namespace Go.Proofs.YtkjcmppaapbabaaDoor
section
open Go.RowKit
/-- What a function of the document returns that makes a code: the code, in memory of the call's own. -/
def GivesC (w : World) (K : Int) (L : List Lt) (e : Ending) (w' : World) : Prop :=
  ∃ (A' : Option Addr) (n' c' : Nat), e = .returned (.agg #[.int .i64 K, .slice A' n' c']) ∧ OwnL w' w.heap.size A' n' c' L ∧ Below w.heap.size w w'
/-- What a function of the program returns that makes a code. -/
def GivesCE (w : World) (K : Int) (L : List Lt) (E : Int) (e : Ending) (w' : World) : Prop :=
  ∃ (A' : Option Addr) (n' c' : Nat), e = .returned (.tuple #[.agg #[.int .i64 K, .slice A' n' c'], .int .i64 E]) ∧ OwnL w' w.heap.size A' n' c' L ∧ Below w.heap.size w w'
/-- 'append(own, letters...)' in a region that draws its order. -/
theorem stepL {w : World} {ops : Array Oper} {o : Oper} {a : Act} {K : Act → World → Prop} {Q' : Exit → Act → World → Prop} {E : Prop} (hgd : o.guard = none) (s x : Operand)
    (ho : o.op = .call { callee := .builtin .append, args := #[s, x], argTypes := #[22, 22] })
    {base : Nat} {A : Option Addr} {n c : Nat} {L : List Lt} {B : Option Addr} {m d : Nat} {M : List Lt} (hs : a.eval s = .slice A n c) (hx : a.eval x = .slice B m d)
    (hL : OwnL w base A n c L) (hM : Lets w B m M) (N : Nat) (hN : n + m = N) (hn : N ≤ 2932031007402) (hbase : base ≤ w.heap.size)
    (h : ∀ A' c' w', OwnL w' base A' N c' (L ++ M) → w.grownBy w' (blk A) → (∀ k, blk A' = some k → blk A = some k ∨ w.heap.size ≤ k) → K (a.put o.dst (.slice A' N c')) w') :
    if Region.wanted o (yielded ops a.tmps) = true then Oper.wp Tryd.prog o a w K Q' else E := by
  obtain ⟨i0, hi, hz0, hz1, hz2⟩ := info_parts ltInfo
  refine stepR hgd s x 22 ho 46 i0 _ 6 48 Tryd.underlying22 hi hz0 hz1 hz2 rfl (by decide) hL.row hM.src
    (by
      intro u hu
      obtain ⟨q, _, hq⟩ := List.mem_flatMap.1 hu
      simp [ltC] at hq
      rcases hq with rfl | rfl | rfl | rfl | rfl | rfl <;> rfl) hs hx N hN (by unfold maxLen; omega) (by omega) hbase ?_
  intro A' c' w' h1 h2 h3 _
  refine h A' c' w' ⟨by rw [List.flatMap_append]; exact h1, fun y hy => ?_, hn⟩ h2 h3
  rcases List.mem_append.1 hy with hy | hy
  · exact hL.fits y hy
  · exact hM.fits y hy
set_option maxRecDepth 100000 in
set_option maxHeartbeats 3200000 in
theorem cref_Copy (K : Int) (A : Option Addr) (n c : Nat) (L : List Lt) (w : World) (hA : Lets w A n L) :
    Calls Tryd.prog 60 #[.agg #[.int .i64 K, .slice A n c]] w (GivesC w K L) := by
  have hle := hA.le
  have hbc2 := build_code2
  have hbx : Boxed w ((w.alloc (.cells #[.int .i64 K, .slice A n c] 24)).alloc (.cells #[.int .i64 0, .slice none 0 0] 24)) K A n c := (Boxed.refl w K A n c).alloc _
  have hR0 : Blk ((w.alloc (.cells #[.int .i64 K, .slice A n c] 24)).alloc (.cells #[.int .i64 0, .slice none 0 0] 24)) (w.heap.size + 1) 24 #[.int .i64 0, .slice none 0 0] := heap_alloc2_new w _ _
  go_enter Tryd.func60, Tryd.ntmps60
  go_wp2_with fail
  generalize (w.alloc (.cells #[.int .i64 K, .slice A n c] 24)).alloc (.cells #[.int .i64 0, .slice none 0 0] 24) = X at hbx hR0 ⊢
  have x0 := hbx.c0
  have x1 := hbx.c1
  have hX := hR0.lt
  have f0 := hR0.frozen 0
  have f1 := hR0.frozen 1
  go_region_law (first
    | ((refine stepL (base := X.heap.size) (A := none) (n := 0) (c := 0) (L := []) (B := A) (m := n) (d := c) (M := L) rfl (.const (.slice none 0 0)) (.tmp 6) (by rfl) (by rfl) (by rfl) (OwnL.nil _ _) ((hA.below hbx.below).below (Below.refl _ _).drew) n (by omega) (by omega) (Nat.le_refl _) ?_)
       intro A1 c1 w1 hown hg hl
       have kg : X.grownBy w1 (blk none) := ⟨hg.os, hg.tape, hg.output, hg.size, hg.block⟩
       have hb1 : Below X.heap.size X w1 := (Below.refl _ _).grown kg (Nat.le_refl _) (fun k hk => by cases hk)
       have y0 := (hb1.cell (p := ⟨w.heap.size, 0, none⟩) (by simp; omega)).trans x0
       have r0 : w1.cell? ⟨w.heap.size + 1, 0, none⟩ = some (.int .i64 0) := ((hR0.below hb1 hX).cell 0).trans rfl
       have r1 : w1.cell? ⟨w.heap.size + 1, 1, none⟩ = some (.slice none 0 0) := ((hR0.below hb1 hX).cell 1).trans rfl
       have g0 := (hR0.below hb1 hX).frozen 0
       have g1 := (hR0.below hb1 hX).frozen 1))
  all_goals
    go_wp2_with fail
    (try simp only [Exit.inBlock, Exit.then])
    have hS : Blk ((w1.setCell ⟨w.heap.size + 1, 0, none⟩ (.int .i64 K)).setCell ⟨w.heap.size + 1, 1, none⟩ (.slice A1 n c1)) (w.heap.size + 1) 24 #[.int .i64 K, .slice A1 n c1] := ((hR0.below hb1 hX).set_ 0 _).set_ 1 _
    refine ret_cellB rfl rfl hS Tryd.underlying24 rfl (by kernel_rfl) rfl ?_
    have gS := only_setCell (only_setCell (World.grownBy.refl w1 (some (w.heap.size + 1))) (p := ⟨w.heap.size + 1, 0, none⟩) (.inl rfl) (.int .i64 K)) (p := ⟨w.heap.size + 1, 1, none⟩) (.inl rfl) (.slice A1 n c1)
    refine ⟨A1, n, c1, rfl, ?_, ((below_chain hbx.below hb1 (by omega)).setCell (p := ⟨w.heap.size + 1, 0, none⟩) (by simp) (.int .i64 K)).setCell (p := ⟨w.heap.size + 1, 1, none⟩) (by simp) (.slice A1 n c1)⟩
    refine ⟨(hown.row.kept gS ?_).mono (by omega), hown.fits, hown.le⟩
    cases hb : blk A1 with
    | none => exact .inl rfl
    | some q => exact .inr (by have := (hown.row.lt q hb).1; simp; omega)
def placeB (K : Int) (L : List Lt) (g l : Int) : Bool := decide (0 ≤ g) && decide (g ≤ K) && decide (0 ≤ l) && decide (l ≤ (gN L g L.length : Int))
set_option maxRecDepth 100000 in
set_option maxHeartbeats 3200000 in
theorem cref_Place (K g l : Int) (A : Option Addr) (n c : Nat) (L : List Lt) (w : World) (hA : Lets w A n L) :
    Calls Tryd.prog 39 #[.agg #[.int .i64 K, .slice A n c], .agg #[.int .i64 g, .int .i64 l]] w fun e w' => e = .returned (.bool (placeB K L g l)) ∧ Below w.heap.size w w' := by
  have hle := hA.le
  have HLn := Lib.hid hA.len
  have hbx : Boxed w ((w.alloc (.cells #[.int .i64 K, .slice A n c] 24)).alloc (.cells #[.int .i64 g, .int .i64 l] 50)) K A n c := (Boxed.refl w K A n c).alloc _
  have hP0 : Blk ((w.alloc (.cells #[.int .i64 K, .slice A n c] 24)).alloc (.cells #[.int .i64 g, .int .i64 l] 50)) (w.heap.size + 1) 50 #[.int .i64 g, .int .i64 l] := heap_alloc2_new w _ _
  go_enter Tryd.func39, Tryd.ntmps39
  go_upto_region 1 with fail
  generalize (w.alloc (.cells #[.int .i64 K, .slice A n c] 24)).alloc (.cells #[.int .i64 g, .int .i64 l] 50) = X at hbx hP0 ⊢
  have c0 := hbx.c0
  have c1 := hbx.c1
  have p0 : X.cell? ⟨w.heap.size + 1, 0, none⟩ = some (.int .i64 g) := (hP0.cell 0).trans rfl
  have p1 : X.cell? ⟨w.heap.size + 1, 1, none⟩ = some (.int .i64 l) := (hP0.cell 1).trans rfl
  have hl1 := hP0.lt
  have hl0 : w.heap.size < X.heap.size := by omega
  have hAX := hA.below hbx.below
  obtain ⟨b1, hb1⟩ : ∃ b, decide (0 ≤ g) = b := ⟨_, rfl⟩
  obtain ⟨b2, hb2⟩ : ∃ b, decide (g ≤ K) = b := ⟨_, rfl⟩
  obtain ⟨b3, hb3⟩ : ∃ b, decide (0 ≤ l) = b := ⟨_, rfl⟩
  obtain ⟨b4, hb4⟩ : ∃ b, decide (l ≤ ((gN L g n : Nat) : Int)) = b := ⟨_, rfl⟩
  refine wk_region (C := fun w' => Below X.heap.size X w') 29 [(2, .pointer (some ⟨w.heap.size, 0, none⟩)), (3, .pointer (some ⟨w.heap.size + 1, 0, none⟩))] (by kernel_rfl) (by kernel_rfl) rfl (by kernel_rfl) (by intro q hq; simp at hq; rcases hq with rfl | rfl <;> simp) (frm_same (frm_same rfl (by simp) rfl) (by simp) rfl) ((Below.refl _ _).drew) ?_
  intro r hrc hrf
  refine wk_one (v := .pointer (some ⟨(w.heap.size + 1), 0, none⟩)) rfl (fun w' hC => q_fa (p := .pointer (some ⟨(w.heap.size + 1), 0, none⟩)) rfl rfl (fa_plc _ 0 0 (by decide) _)) ?_
  refine wk_one (v := .int .i64 g) rfl (fun w' hC => q_ld (p := .pointer (some ⟨(w.heap.size + 1), 0, none⟩)) rfl rfl (ld_int ((hC.cell (p := ⟨(w.heap.size + 1), 0, none⟩) hl1).trans p0))) ?_
  refine wk_one (v := .bool (b1)) rfl (fun w' hC => q_bin (X := .int .i64 g) (Y := .int .i64 0) rfl rfl (hrc _) (bo_geq hb1)) ?_
  refine wk_one (v := .bool (b1)) rfl (fun w' hC => q_move rfl rfl) ?_
  refine wk_grd (b := b1) (v := .pointer (some ⟨(w.heap.size + 1), 0, none⟩)) (want_t rfl rfl rfl) (fun h w' hC => q_fa (p := .pointer (some ⟨(w.heap.size + 1), 0, none⟩)) rfl rfl (fa_plc _ 0 0 (by decide) _)) ?_
  refine wk_grd (b := b1) (v := .int .i64 g) (want_t rfl rfl rfl) (fun h w' hC => q_ld (p := .pointer (some ⟨(w.heap.size + 1), 0, none⟩)) rfl (cnd h) (ld_int ((hC.cell (p := ⟨(w.heap.size + 1), 0, none⟩) hl1).trans p0))) ?_
  refine wk_grd (b := b1) (v := .pointer (some ⟨w.heap.size, 0, none⟩)) (want_t rfl rfl rfl) (fun h w' hC => q_fa (p := .pointer (some ⟨w.heap.size, 0, none⟩)) rfl rfl (fa_code _ 0 0 (by decide) _)) ?_
  refine wk_grd (b := b1) (v := .int .i64 K) (want_t rfl rfl rfl) (fun h w' hC => q_ld (p := .pointer (some ⟨w.heap.size, 0, none⟩)) rfl (cnd h) (ld_int ((hC.cell (p := ⟨w.heap.size, 0, none⟩) hl0).trans c0))) ?_
  refine wk_grd (b := b1) (v := .bool (b2)) (want_t rfl rfl rfl) (fun h w' hC => q_bin (X := .int .i64 g) (Y := .int .i64 K) rfl (cnd h) (cnd h) (bo_leq hb2)) ?_
  refine wk_one (v := .bool (b1 && b2)) rfl (fun w' hC => q_and rfl (fun _ => hrc _) rfl rfl) ?_
  refine wk_one (v := .bool (b1 && b2)) rfl (fun w' hC => q_move rfl rfl) ?_
  refine wk_grd (b := b1 && b2) (v := .pointer (some ⟨(w.heap.size + 1), 1, none⟩)) (want_t rfl rfl rfl) (fun h w' hC => q_fa (p := .pointer (some ⟨(w.heap.size + 1), 0, none⟩)) rfl rfl (fa_plc _ 0 1 (by decide) _)) ?_
  refine wk_grd (b := b1 && b2) (v := .int .i64 l) (want_t rfl rfl rfl) (fun h w' hC => q_ld (p := .pointer (some ⟨(w.heap.size + 1), 1, none⟩)) rfl (cnd h) (ld_int ((hC.cell (p := ⟨(w.heap.size + 1), 1, none⟩) hl1).trans p1))) ?_
  refine wk_grd (b := b1 && b2) (v := .bool (b3)) (want_t rfl rfl rfl) (fun h w' hC => q_bin (X := .int .i64 l) (Y := .int .i64 0) rfl (cnd h) (hrc _) (bo_geq hb3)) ?_
  refine wk_one (v := .bool ((b1 && b2) && b3)) rfl (fun w' hC => q_and rfl (fun _ => hrc _) rfl rfl) ?_
  refine wk_one (v := .bool ((b1 && b2) && b3)) rfl (fun w' hC => q_move rfl rfl) ?_
  refine wk_grd (b := (b1 && b2) && b3) (v := .pointer (some ⟨(w.heap.size + 1), 1, none⟩)) (want_t rfl rfl rfl) (fun h w' hC => q_fa (p := .pointer (some ⟨(w.heap.size + 1), 0, none⟩)) rfl rfl (fa_plc _ 0 1 (by decide) _)) ?_
  refine wk_grd (b := (b1 && b2) && b3) (v := .int .i64 l) (want_t rfl rfl rfl) (fun h w' hC => q_ld (p := .pointer (some ⟨(w.heap.size + 1), 1, none⟩)) rfl (cnd h) (ld_int ((hC.cell (p := ⟨(w.heap.size + 1), 1, none⟩) hl1).trans p1))) ?_
  refine wk_grd (b := (b1 && b2) && b3) (v := .agg #[.int .i64 K, .slice A n c]) (want_t rfl rfl rfl) (fun h w' hC => q_ld (p := .pointer (some ⟨w.heap.size, 0, none⟩)) rfl rfl (ld_code ((hC.cell (p := ⟨w.heap.size, 0, none⟩) hl0).trans c0) ((hC.cell (p := ⟨w.heap.size, 1, none⟩) hl0).trans c1))) ?_
  refine wk_grd (b := (b1 && b2) && b3) (v := .pointer (some ⟨(w.heap.size + 1), 0, none⟩)) (want_t rfl rfl rfl) (fun h w' hC => q_fa (p := .pointer (some ⟨(w.heap.size + 1), 0, none⟩)) rfl rfl (fa_plc _ 0 0 (by decide) _)) ?_
  refine wk_grd (b := (b1 && b2) && b3) (v := .int .i64 g) (want_t rfl rfl rfl) (fun h w' hC => q_ld (p := .pointer (some ⟨(w.heap.size + 1), 0, none⟩)) rfl (cnd h) (ld_int ((hC.cell (p := ⟨(w.heap.size + 1), 0, none⟩) hl1).trans p0))) ?_
  refine wk_grd (b := (b1 && b2) && b3) (v := .int .i64 (gN L g n : Nat)) (want_t rfl rfl rfl) (fun h w' hC => q_call (vs := #[.agg #[.int .i64 K, .slice A n c], .int .i64 g]) rfl (hrf _) (map2 (cnd h) (cnd h)) (en_In _ _) ((ref_In K g A n c L _ (hAX.below hC)).mono fun _ _ ⟨he, hb⟩ => ⟨he, below_chain hC hb hC.size⟩)) ?_
  refine wk_grd (b := (b1 && b2) && b3) (v := .bool (b4)) (want_t rfl rfl rfl) (fun h w' hC => q_bin (X := .int .i64 l) (Y := .int .i64 (gN L g n : Nat)) rfl (cnd h) (cnd h) (bo_leq hb4)) ?_
  refine wk_one (v := .bool (((b1 && b2) && b3) && b4)) rfl (fun w' hC => q_and rfl (fun _ => hrc _) rfl rfl) ?_
  refine wk_one (v := .bool (((b1 && b2) && b3) && b4)) rfl (fun w' hC => q_assign rfl rfl) ?_
  intro wx hwx
  have hf := Lib.hid (show (((b1 && b2) && b3) && b4) = placeB K L g l by subst hb1 hb2 hb3 hb4; unfold placeB; rw [HLn.out])
  clear hrc hrf r
  simp only [outE, frm, Act.put, List.setIfInBounds_toArray, List.set_cons_succ, List.set_cons_zero]
  clear c0 c1 p0 p1 hP0 hb1 hb2 hb3 hb4
  go_wp2_with fail
  go_ret
  exact ⟨ret_bool hf.out, below_chain hbx.below hwx (by omega)⟩
end

section
open Go.RowKit
/-- What a valid code's numbers keep to. -/
structure Tame (K : Int) (L : List Lt) : Prop where
  lo : 0 ≤ K
  hi : K ≤ 40
  len : L.length ≤ 400
  pass : ∀ i, i < L.length → isP (la L i) = true → 0 ≤ (la L i).gate ∧ (la L i).gate ≤ K ∧ 1 ≤ (la L i).rank ∧ (la L i).rank ≤ 400
  kinds : ∀ i, i < L.length → isP (la L i) = true ∨ isC (la L i) = true
  sign : ∀ i, i < L.length → isC (la L i) = true → (la L i).sign = 1 ∨ (la L i).sign = -1
theorem check_parts {K : Int} {L : List Lt} (h : checkE K L = 0) : 0 ≤ K ∧ K ≤ 40 ∧ L.length ≤ 400 ∧ (L.length = 0 ∨ validB2 K L = true) := by
  unfold checkE at h
  by_cases h1 : 400 < L.length ∨ 200 < cN L L.length
  · rw [if_pos h1] at h; cases h
  · rw [if_neg h1] at h
    by_cases h2 : K < 0 ∨ 40 < K
    · rw [if_pos h2] at h; cases h
    · rw [if_neg h2] at h
      by_cases h3 : L.length = 0
      · exact ⟨by omega, by omega, by omega, .inl h3⟩
      · rw [if_neg h3] at h
        cases hv : validB2 K L with
        | true => exact ⟨by omega, by omega, by omega, .inr rfl⟩
        | false => rw [hv] at h; cases h
theorem tame_of_check {K : Int} {L : List Lt} (h : checkE K L = 0) : Tame K L := by
  obtain ⟨h1, h2, h3, h4⟩ := check_parts h
  rcases h4 with h4 | h4
  · exact ⟨h1, h2, h3, fun i hi => by omega, fun i hi => by omega, fun i hi => by omega⟩
  · rcases Nat.eq_zero_or_pos L.length with h0 | h0
    · exact ⟨h1, h2, h3, fun i hi => by omega, fun i hi => by omega, fun i hi => by omega⟩
    · have g := good_of_valid h0 h4
      refine ⟨h1, h2, h3, fun i hi hp => ?_, g.kinds, fun i hi hc => ?_⟩
      · have a1 := g.gates i hi hp
        have a2 := g.rank hp
        have a3 : gN L (la L i).gate L.length ≤ L.length := countTo_le _ _
        omega
      · unfold validB2 at h4
        rw [← letters_iff] at h4
        simp only [Bool.and_eq_true] at h4
        have h5 := h4.1.2.1.1
        unfold lettersP at h5
        have h6 := allTo_iff.1 h5 i hi
        have k2 : (la L i).kind = 2 := by unfold isC at hc; simpa using hc
        unfold lpB at h6
        rw [if_neg (by omega), if_pos k2] at h6
        simp only [decide_eq_true_eq] at h6
        exact h6.2.2
/-- A copy under way: the copy's letters, the block of the copy, older memory. -/
structure Cpy (X wr : World) (oB : Nat) (K : Int) (A : Option Addr) (n c : Nat) (M : List Lt) : Prop where
  own : OwnL wr X.heap.size A n c M
  bk : Blk wr oB 24 #[.int .i64 K, .slice A n c]
  far : ∀ q, blk A = some q → q ≠ oB
  old : Below X.heap.size X wr
section
variable {X wr wx : World} {oB : Nat} {K : Int} {A : Option Addr} {n c : Nat} {M : List Lt}
theorem Cpy.next (h : Cpy X wr oB K A n c M) (hb : Below wr.heap.size wr wx) : Cpy X wx oB K A n c M := ⟨h.own.next hb, h.bk.below hb h.bk.lt, h.far, below_chain h.old hb h.old.size⟩
theorem Cpy.alloc (h : Cpy X wr oB K A n c M) (o : Obj) : Cpy X (wr.alloc o) oB K A n c M := h.next ((Below.refl _ _).alloc (Nat.le_refl _) o)
theorem Cpy.c0 (h : Cpy X wr oB K A n c M) : wr.cell? ⟨oB, 0, none⟩ = some (.int .i64 K) := (h.bk.cell 0).trans rfl
theorem Cpy.c1 (h : Cpy X wr oB K A n c M) : wr.cell? ⟨oB, 1, none⟩ = some (.slice A n c) := (h.bk.cell 1).trans rfl
theorem Cpy.put {g o j i q : Nat} {x x' : Lt} {u : Value} (h : Cpy X wr oB K (some ⟨g, o, none⟩) n c M) (hx : M[j]? = some x) (hi : i < 6) (he : ltC x' = (ltC x).set i u) (hok : LtOk x') (hq : q = j * 6 + i) :
    Cpy X (wr.setCell ⟨g, o + q, none⟩ u) oB K (some ⟨g, o, none⟩) n c (M.set j x') :=
  ⟨h.own.put hx hi he hok hq, h.bk.far (fun e => h.far g rfl e.symm) u, h.far, h.old.setCell (p := ⟨g, o + q, none⟩) (h.own.row.at_ _ rfl).2.1 u⟩
theorem Cpy.free {g o j i : Nat} (h : Cpy X wr oB K (some ⟨g, o, none⟩) n c M) (hj : j < n) (hi : i < 6) : wr.frozen? ⟨g, o + j * 6 + i, none⟩ = false := by
  have := h.own.row.cap
  have e := h.own.row.free (j := j * 6 + i) (by omega)
  rw [← Nat.add_assoc] at e
  exact e
end
set_option maxRecDepth 100000 in
set_option maxHeartbeats 6400000 in
theorem cref_Forget (K : Int) (f : Nat) (A : Option Addr) (n c : Nat) (L : List Lt) (w : World) (hA : Lets w A n L) (hs : Tame K L) (hf1 : 1 ≤ f) (hf2 : f ≤ 40) :
    Calls Tryd.prog 37 #[.agg #[.int .i64 K, .slice A n c], .int .i64 f] w (GivesC w (K - 1) (forgetL L f)) := by
  have hle := hA.le
  have hLn := Lib.hid hA.len
  have hK0 := hs.lo
  have hK4 := hs.hi
  have HS := Lib.hid hs
  have hn4 : n ≤ 400 := by have := hs.len; have := hA.len; omega
  have hbx : Boxed w ((w.alloc (.cells #[.int .i64 K, .slice A n c] 24)).alloc (.cells #[.int .i64 0, .slice none 0 0] 24)) K A n c := (Boxed.refl w K A n c).alloc _
  have hR0 : Blk ((w.alloc (.cells #[.int .i64 K, .slice A n c] 24)).alloc (.cells #[.int .i64 0, .slice none 0 0] 24)) (w.heap.size + 1) 24 #[.int .i64 0, .slice none 0 0] := heap_alloc2_new w _ _
  clear hs
  go_enter Tryd.func37, Tryd.ntmps37
  go_wp2_with fail
  generalize (w.alloc (.cells #[.int .i64 K, .slice A n c] 24)).alloc (.cells #[.int .i64 0, .slice none 0 0] 24) = X at hbx hR0 ⊢
  refine (cref_Copy K A n c L _ (hA.below hbx.below)).mono ?_
  rintro e w1 ⟨A1, n1, c1, rfl, hown, hb1⟩
  obtain rfl : n1 = n := by rw [← hown.len, hLn.out]
  have hX := hR0.lt
  have hsz1 := hb1.size
  have hC0 : Cpy X (w1.alloc (.cells #[.int .i64 (K - 1), .slice A1 n1 c1] 24)) w1.heap.size (K - 1) A1 n1 c1 L :=
    ⟨hown.alloc _, Blk.new _ _ _, fun q hq => Nat.ne_of_lt (hown.row.lt q hq).2, hb1.alloc hsz1 _⟩
  have hst : Hid (Upto (fgLt L f) L L 0) := Lib.hid (Upto.zero _ _)
  clear hb1 hown
  go_wp2_with fail
  go_loopw [6] (fun v6 wr => ∃ (i : Nat) (Lw : List Lt), i ≤ n1 ∧ v6 = .int .i64 i ∧ Cpy X wr w1.heap.size (K - 1) A1 n1 c1 Lw ∧ Hid (Upto (fgLt L f) L Lw i)) (fun v6 _ => n1 - (intOf v6).toNat)
  case atStart => exact ⟨0, L, Nat.zero_le _, rfl, hC0, hst⟩
  case round =>
    obtain ⟨i, Lw, hi, rfl, hC, HU⟩ := hrel
    clear hC0 hst
    have hbw := below_chain hbx.below hC.old (by omega)
    have o0 := hC.c0
    have o1 := hC.c1
    have e0 := (hbx.more hC.old).c0
    have e1 := (hbx.more hC.old).c1
    have hszr := hC.old.size
    have hblt := hC.bk.lt
    by_cases hlt : i < n1
    · obtain ⟨ga, oa, rfl, hga, hxa, hok⟩ := (hA.below hbw).at_ hlt
      obtain ⟨gg, o, rfl, hgg, hx, _⟩ := hC.own.lets.at_ hlt
      have hlw : la Lw i = la L i := by rw [HU.out.2 i (by rw [hLn.out]; exact hlt), if_neg (by omega)]
      have hgi : Lw[i]? = some (la L i) := by rw [la_get (by rw [hC.own.len]; exact hlt), hlw]
      rw [hlw] at hx
      obtain ⟨y0, y1, y2, y3, y4, y5⟩ := hx
      obtain ⟨z0, z1, z2, z3, z4, z5⟩ := hxa
      have i0 : (0 : Int) ≤ (i : Int) := by omega
      have i1 : (i : Int) < (n1 : Int) := by omega
      have f1 := hC.free hlt (i := 1) (by omega)
      have f2 := hC.free hlt (i := 2) (by omega)
      have m1 : gg ≠ w1.heap.size := hC.far gg rfl
      have HOK := Lib.hid hok
      have HGI := Lib.hid hgi
      clear hok hgi hlw
      by_cases hk1 : (la L i).kind = 1
      · have q1 : ((la L i).kind != 1) = false := by simpa using hk1
        have hp := isP_t hk1
        obtain ⟨b1, b2, b3, b4⟩ := HS.out.pass i (by rw [hLn.out]; exact hlt) hp
        have HP := Lib.hid hp
        clear hk1 hp
        have hokg : ∀ r, I64 r → LtOk { la L i with gate := (la L i).gate - 1, rank := r } := fun r hr => ⟨HOK.out.kind, ⟨by simp only []; omega, by simp only []; omega⟩, hr, HOK.out.id, HOK.out.sign⟩
        have HOG := Lib.hid hokg
        clear hokg
        by_cases hg1 : (la L i).gate < (f : Int)
        · have HU1 := Lib.hid (HU.out.skip (fg_no (L := L) (f := f) (l := la L i) (by omega)))
          have q2 : decide ((f : Int) ≤ (la L i).gate) = false := by simp; omega
          have q3 : ((la L i).gate == (f : Int)) = false := by simp; omega
          clear HU
          go_wp2_with fail
          go_roundw
          case rel => exact ⟨i + 1, Lw, by omega, by go_num, hC.alloc _, HU1⟩
          case measure => simp [intOf]; omega
        · by_cases hg2 : (la L i).gate = (f : Int)
          · have q3 : ((la L i).gate == (f : Int)) = true := by simpa using hg2
            have q2 : decide ((f : Int) ≤ (la L i).gate) = true := by simp; omega
            obtain ⟨fm, hfm⟩ : ∃ fm : Nat, (f : Int) - 1 = (fm : Int) := ⟨f - 1, by omega⟩
            have hgn := gN_lt L (fm : Int) n1
            obtain ⟨G, hG⟩ : ∃ G : Nat, gN L (fm : Int) n1 = G := ⟨_, rfl⟩
            have hgb2 : (G : Int) ≤ 400 := by omega
            have hr64 : I64 ((la L i).rank + (G : Int)) := ⟨by omega, by omega⟩
            have hokr : LtOk { la L i with rank := (la L i).rank + (G : Int) } := ⟨HOK.out.kind, HOK.out.gate, hr64, HOK.out.id, HOK.out.sign⟩
            have HU1 := Lib.hid (HU.out.set (by rw [hLn.out]; exact hlt) (x := { la L i with gate := (la L i).gate - 1, rank := (la L i).rank + (G : Int) }) (by
              rw [fg_eq (L := L) (f := f) HP.out hg2, hLn.out, hfm, hG]))
            have HG := Lib.hid hG
            have HFM := Lib.hid hfm
            have HRK := Lib.hid hokr
            have HG2 := Lib.hid hg2
            have hin : ∀ W, Below w.heap.size w W → Calls Tryd.prog 89 #[.agg #[.int .i64 K, .slice (some ⟨ga, oa, none⟩) n1 c], .int .i64 (fm : Int)] W fun e w' => e = .returned (.int .i64 (G : Int)) ∧ Below W.heap.size W w' := fun W hW => by rw [← HG.out]; exact ref_In K fm _ n1 c L W (hA.below hW)
            have HIN := Lib.hid hin
            have v1 : IntKind.i64.wrap ((la L i).rank + (G : Int)) = (la L i).rank + (G : Int) := IntWalk.i64_in _ hr64
            have v2 : IntKind.i64.wrap ((f : Int) - 1) = (fm : Int) := by rw [hfm]; exact IntWalk.i64_in _ (by omega)
            clear HU hg2 hG hgn hin hfm hokr hr64
            have hm2 : gg ≠ w.heap.size := by have := (hC.own.row.at_ _ rfl).2.1; simp only [] at this; omega
            have hm3 : gg ≠ wr.heap.size := by omega
            have hCr := hC.alloc (.cells #[.int .i64 (la L i).kind, .int .i64 (la L i).gate, .int .i64 (la L i).rank, .int .i64 (la L i).id, .int .i64 (la L i).sign, .bool (la L i).over] 46)
            have hBl := Blk.new wr 46 #[.int .i64 (la L i).kind, .int .i64 (la L i).gate, .int .i64 (la L i).rank, .int .i64 (la L i).id, .int .i64 (la L i).sign, .bool (la L i).over]
            have hgX : X.heap.size ≤ gg := (hC.own.row.at_ _ rfl).2.1
            go_upto_region 9 with fail
            generalize hW : wr.alloc (.cells #[.int .i64 (la L i).kind, .int .i64 (la L i).gate, .int .i64 (la L i).rank, .int .i64 (la L i).id, .int .i64 (la L i).sign, .bool (la L i).over] 46) = W at hCr hBl ⊢
            have hWs : wr.heap.size < W.heap.size := hBl.lt
            have hWr : Below wr.heap.size wr W := by rw [← hW]; exact (Below.refl _ _).alloc (Nat.le_refl _) _
            clear hW
            have w0 : W.cell? ⟨w.heap.size, 0, none⟩ = some (.int .i64 K) := (hWr.cell (p := ⟨w.heap.size, 0, none⟩) (by simp; omega)).trans e0
            have w2 : W.cell? ⟨w.heap.size, 1, none⟩ = some (.slice (some ⟨ga, oa, none⟩) n1 c) := (hWr.cell (p := ⟨w.heap.size, 1, none⟩) (by simp; omega)).trans e1
            have w3 : W.cell? ⟨w1.heap.size, 1, none⟩ = some (.slice (some ⟨gg, o, none⟩) n1 c1) := hCr.c1
            have w4 : W.cell? ⟨wr.heap.size, 2, none⟩ = some (.int .i64 (la L i).rank) := (hBl.cell 2).trans rfl
            have w5 : W.cell? ⟨wr.heap.size, 1, none⟩ = some (.int .i64 (la L i).gate) := (hBl.cell 1).trans rfl
            have w6 : W.cell? ⟨gg, o + i * 6 + 2, none⟩ = some (.int .i64 (la L i).rank) := (hWr.cell (p := ⟨gg, o + i * 6 + 2, none⟩) hgg).trans y2
            have w7 : W.frozen? ⟨gg, o + i * 6 + 2, none⟩ = false := hCr.free hlt (i := 2) (by omega)
            have hS0 : ∀ wx, Below W.heap.size W wx → (Below X.heap.size W wx ∧ wx.cell? ⟨w.heap.size, 0, none⟩ = some (.int .i64 K) ∧ wx.cell? ⟨w.heap.size, 1, none⟩ = some (.slice (some ⟨ga, oa, none⟩) n1 c) ∧ wx.cell? ⟨w1.heap.size, 1, none⟩ = some (.slice (some ⟨gg, o, none⟩) n1 c1) ∧ wx.cell? ⟨wr.heap.size, 2, none⟩ = some (.int .i64 (la L i).rank)) := fun wx h =>
              ⟨h.mono (by omega), (h.cell (p := ⟨w.heap.size, 0, none⟩) (by simp; omega)).trans w0, (h.cell (p := ⟨w.heap.size, 1, none⟩) (by simp; omega)).trans w2, (h.cell (p := ⟨w1.heap.size, 1, none⟩) (by simp; omega)).trans w3, (h.cell (p := ⟨wr.heap.size, 2, none⟩) hWs).trans w4⟩
            have hS1 : ∀ wx, Below W.heap.size W wx → (Below X.heap.size W (wx.setCell ⟨gg, o + i * 6 + 2, none⟩ (.int .i64 ((la L i).rank + (G : Int)))) ∧ (wx.setCell ⟨gg, o + i * 6 + 2, none⟩ (.int .i64 ((la L i).rank + (G : Int)))).cell? ⟨w.heap.size, 0, none⟩ = some (.int .i64 K) ∧ (wx.setCell ⟨gg, o + i * 6 + 2, none⟩ (.int .i64 ((la L i).rank + (G : Int)))).cell? ⟨w.heap.size, 1, none⟩ = some (.slice (some ⟨ga, oa, none⟩) n1 c) ∧ (wx.setCell ⟨gg, o + i * 6 + 2, none⟩ (.int .i64 ((la L i).rank + (G : Int)))).cell? ⟨w1.heap.size, 1, none⟩ = some (.slice (some ⟨gg, o, none⟩) n1 c1) ∧ (wx.setCell ⟨gg, o + i * 6 + 2, none⟩ (.int .i64 ((la L i).rank + (G : Int)))).cell? ⟨wr.heap.size, 2, none⟩ = some (.int .i64 (la L i).rank)) := fun wx h => by
              obtain ⟨s0, s1, s2, s3, s4⟩ := hS0 wx h
              refine ⟨s0.setCell (p := ⟨gg, o + i * 6 + 2, none⟩) hgX _, ?_, ?_, ?_, ?_⟩
              · rw [World.cell?_setCell_other _ _ _ _ (by intro e; injection e with e; omega)]; exact s1
              · rw [World.cell?_setCell_other _ _ _ _ (by intro e; injection e with e; omega)]; exact s2
              · rw [World.cell?_setCell_other _ _ _ _ (by intro e; injection e with e; omega)]; exact s3
              · rw [World.cell?_setCell_other _ _ _ _ (by intro e; injection e with e; omega)]; exact s4
            have KP := Lib.hid hS0
            have KS := Lib.hid hS1
            have hww := hbx.below.size
            have hwW : Below w.heap.size w W := below_chain hbw hWr (by omega)
            have hgW : gg < W.heap.size := by omega
            clear hS0 hS1
            first
              | go_region_held3 (fun wx => Below X.heap.size W wx ∧ wx.cell? ⟨w.heap.size, 0, none⟩ = some (.int .i64 K) ∧ wx.cell? ⟨w.heap.size, 1, none⟩ = some (.slice (some ⟨ga, oa, none⟩) n1 c) ∧ wx.cell? ⟨w1.heap.size, 1, none⟩ = some (.slice (some ⟨gg, o, none⟩) n1 c1) ∧ wx.cell? ⟨wr.heap.size, 2, none⟩ = some (.int .i64 (la L i).rank)) (first | assumption | exact KP.out _ (Below.refl _ _).drew | exact KP.out _ (by assumption) | exact KS.out _ (by assumption))
                  ((go_at_call 89; refine (HIN.out _ (below_chain hwW (Below.refl _ _).drew (by omega))).mono ?_; rintro e wy ⟨rfl, hby⟩; have hbz : Below W.heap.size W wy := below_chain (Below.refl W.heap.size W).drew hby (Nat.le_refl _); have u1 : wy.cell? ⟨gg, o + i * 6 + 2, none⟩ = some (.int .i64 (la L i).rank) := (Below.cell hby (p := ⟨gg, o + i * 6 + 2, none⟩) hgW).trans w6; have u2 : wy.frozen? ⟨gg, o + i * 6 + 2, none⟩ = false := (Below.frozen hby (p := ⟨gg, o + i * 6 + 2, none⟩) hgW).trans w7))
              | fail
            all_goals
              have hbz' : Below W.heap.size W wy := by assumption
              have hCy := hCr.next hbz'
              have g0 : wy.cell? ⟨wr.heap.size, 1, none⟩ = some (.int .i64 (la L i).gate) := (hbz'.cell (p := ⟨wr.heap.size, 1, none⟩) hWs).trans w5
              have g1 := hCy.c1
              have g2 : wy.cell? ⟨gg, o + i * 6 + 1, none⟩ = some (.int .i64 (la L i).gate) := (hbz'.cell (p := ⟨gg, o + i * 6 + 1, none⟩) hgW).trans ((hWr.cell (p := ⟨gg, o + i * 6 + 1, none⟩) hgg).trans y1)
              have g3 := hCy.free hlt (i := 1) (by omega)
              have hC1 := hCy.put (i := 2) (u := .int .i64 ((la L i).rank + (G : Int))) (x' := { la L i with rank := (la L i).rank + (G : Int) }) HGI.out (by omega) rfl HRK.out rfl
              have hC2 := hC1.put (i := 1) (j := i) (x := { la L i with rank := (la L i).rank + (G : Int) }) (u := .int .i64 ((la L i).gate - 1)) (x' := { la L i with gate := (la L i).gate - 1, rank := (la L i).rank + (G : Int) }) (by rw [List.getElem?_set_self (by rw [hCy.own.len]; exact hlt)]) (by omega) rfl (HOG.out _ HRK.out.rank) rfl
              rw [List.set_set] at hC2
              clear hCy hC1 v1 v2 w0 w2 w3 w4 w5 w6 w7 hbz' y0 y1 y2 y3 y4 y5 z0 z1 z2 z3 z4 z5 KP KS
              go_wp2_with fail
              go_roundw
              case rel => exact ⟨i + 1, _, by omega, by go_num, hC2, HU1⟩
              case measure => simp [intOf]; omega
          · have q3 : ((la L i).gate == (f : Int)) = false := by simpa using hg2
            have q2 : decide ((f : Int) ≤ (la L i).gate) = true := by simp; omega
            have HU1 := Lib.hid (HU.out.set (by rw [hLn.out]; exact hlt) (fg_up (L := L) (f := f) HP.out (by omega)).symm)
            have hC1 := hC.put (i := 1) (u := .int .i64 ((la L i).gate - 1)) (x' := { la L i with gate := (la L i).gate - 1 }) HGI.out (by omega) rfl (HOG.out _ HOK.out.rank) rfl
            clear HU hg2
            go_wp2_with fail
            go_roundw
            case rel => exact ⟨i + 1, _, by omega, by go_num, hC1.alloc _, HU1⟩
            case measure => simp [intOf]; omega
      · have q1 : ((la L i).kind != 1) = true := by simpa using hk1
        have HU1 := Lib.hid (HU.out.skip (fg_no (L := L) (f := f) (l := la L i) (by rw [isP_f hk1]; simp)))
        clear hk1 HU
        go_wp2_with fail
        go_roundw
        case rel => exact ⟨i + 1, Lw, by omega, by go_num, hC.alloc _, HU1⟩
        case measure => simp [intOf]; omega
    · have hin : i = n1 := by omega
      have hU := HU.out
      rw [hin, ← hLn.out] at hU
      have hLf := hU.all
      have hown := hC.own
      rw [hLf] at hown
      have i1 : ¬ (i : Int) < (n1 : Int) := by omega
      have hR3 := hR0.below hC.old hX
      have r0 : wr.cell? ⟨w.heap.size + 1, 0, none⟩ = some (.int .i64 0) := (hR3.cell 0).trans rfl
      have r1 : wr.cell? ⟨w.heap.size + 1, 1, none⟩ = some (.slice none 0 0) := (hR3.cell 1).trans rfl
      have z0 := hR3.frozen 0
      have z1 := hR3.frozen 1
      have hS : Blk ((wr.setCell ⟨w.heap.size + 1, 0, none⟩ (.int .i64 (K - 1))).setCell ⟨w.heap.size + 1, 1, none⟩ (.slice A1 n1 c1)) (w.heap.size + 1) 24 #[.int .i64 (K - 1), .slice A1 n1 c1] := (hR3.set_ 0 _).set_ 1 _
      have gS := only_setCell (only_setCell (World.grownBy.refl wr (some (w.heap.size + 1))) (p := ⟨w.heap.size + 1, 0, none⟩) (.inl rfl) (.int .i64 (K - 1))) (p := ⟨w.heap.size + 1, 1, none⟩) (.inl rfl) (.slice A1 n1 c1)
      have hbS := ((below_chain hbx.below hC.old (by omega)).setCell (p := ⟨w.heap.size + 1, 0, none⟩) (by simp) (.int .i64 (K - 1))).setCell (p := ⟨w.heap.size + 1, 1, none⟩) (by simp) (.slice A1 n1 c1)
      have hLk : OwnL ((wr.setCell ⟨w.heap.size + 1, 0, none⟩ (.int .i64 (K - 1))).setCell ⟨w.heap.size + 1, 1, none⟩ (.slice A1 n1 c1)) w.heap.size A1 n1 c1 (forgetL L f) := by
        refine ⟨(hown.row.kept gS ?_).mono (by omega), hown.fits, hown.le⟩
        cases hb : blk A1 with
        | none => exact .inl rfl
        | some q => exact .inr (by have := (hown.row.lt q hb).1; simp; omega)
      clear hU hLf hin HU hR3 hown gS
      go_wp2_with fail
      (try simp only [Exit.inBlock, Exit.then])
      refine ret_cellB rfl rfl hS Tryd.underlying24 rfl (by kernel_rfl) rfl ?_
      exact ⟨A1, n1, c1, rfl, hLk, hbS⟩
end

section
open Go.RowKit
theorem Lets.to {w : World} {A : Option Addr} {n i : Nat} {L : List Lt} (h : Lets w A n L) (hi : i ≤ n) : Lets w A i (L.take i) := by
  refine ⟨by simp [h.len]; omega, by have := h.le; omega, fun x hx => h.fits x (List.mem_of_mem_take hx), fun hn => ?_⟩
  obtain ⟨g, o, rfl, hb, hcell⟩ := h.2.2.2 (by omega)
  refine ⟨g, o, rfl, hb, fun t x hx => hcell t x ?_⟩
  rw [List.getElem?_take] at hx
  split at hx
  · exact hx
  · cases hx
theorem Lets.from {w : World} {A : Option Addr} {n i c : Nat} {L : List Lt} (h : Lets w A n L) (hi : i ≤ n) (hc : n ≤ c) :
    Lets w (if c = i then A else A.map (·.add (i * 6))) (n - i) (L.drop i) := by
  refine ⟨by simp [h.len], by have := h.le; omega, fun x hx => h.fits x (List.mem_of_mem_drop hx), fun hn => ?_⟩
  obtain ⟨g, o, rfl, hb, hcell⟩ := h.2.2.2 (by omega)
  refine ⟨g, o + i * 6, by rw [if_neg (by omega)]; simp [Addr.add_lit], hb, fun t x hx => ?_⟩
  rw [List.getElem?_drop] at hx
  have := hcell _ _ hx
  rw [Nat.add_mul, ← Nat.add_assoc] at this
  exact this
set_option maxHeartbeats 1600000 in
theorem code_rotated (i : Nat) (A : Option Addr) (n c : Nat) (L : List Lt) (w : World) (hA : Lets w A n L) (hi : i ≤ n) (hc : n ≤ c) :
    Calls Tryd.prog 95 #[.slice A n c, .int .i64 i] w fun e w' => ∃ A' c', e = .returned (.slice A' n c') ∧ OwnL w' w.heap.size A' n c' (rotT L i) ∧ Below w.heap.size w w' := by
  have hle := hA.le
  have hi0 : (0 : Int) ≤ (i : Int) := by omega
  have hi1 : (i : Int) ≤ (n : Int) := by omega
  have hi2 : (i : Int) ≤ (c : Int) := by omega
  go_enter Tryd.func95, Tryd.ntmps95
  go_wp2_with fail
  go_region_law (first
    | ((refine stepL (base := w.heap.size) (A := none) (n := 0) (c := 0) (L := []) (m := n - i) (d := c - i) (M := L.drop i) rfl (.const (.slice none 0 0)) (.tmp 7) (by rfl) (by rfl) (by rfl) (OwnL.nil _ _) (Lets.from (c := c) (hA.below (Below.refl _ _).drew) hi hc) (n - i) (by omega) (by omega) (Nat.le_refl _) ?_)
       intro A1 c1 w1 hown1 hg1 hl1
       have kg1 : w.grownBy w1 (blk none) := ⟨hg1.os, hg1.tape, hg1.output, hg1.size, hg1.block⟩
       have kb1 : Below w.heap.size w w1 := (Below.refl _ _).grown kg1 (Nat.le_refl _) (fun k hk => by cases hk))
    | ((refine stepL (base := w.heap.size) (m := i) (d := c) (M := L.take i) rfl (.tmp 8) (.tmp 11) (by rfl) (by rfl) (by rfl) hown1 (Lets.to (hA.below kb1) hi) n (by omega) (by omega) kb1.size ?_)
       intro A2 c2 w2 hown2 hg2 hl2
       have kb2 : Below w.heap.size w w2 := kb1.trans ((Below.refl _ _).grown hg2 kb1.size (fun k hk => (hown1.row.lt k hk).1))))
  all_goals
    go_wp2_with fail
    all_goals
      go_ret
      exact ⟨A2, c2, rfl, by simpa [rotT] using hown2, kb2⟩
/-- What a copy leaves that is stored into the result's block. -/
theorem copy_ends {w X wr : World} {K : Int} {A : Option Addr} {n c : Nat} {M : List Lt} (hR : Blk wr (w.heap.size + 1) 24 #[.int .i64 0, .slice none 0 0]) (hb : Below X.heap.size X wr) (hbx : Below w.heap.size w X) (hX : w.heap.size + 1 < X.heap.size) (h : OwnL wr X.heap.size A n c M) :
    Blk ((wr.setCell ⟨w.heap.size + 1, 0, none⟩ (.int .i64 K)).setCell ⟨w.heap.size + 1, 1, none⟩ (.slice A n c)) (w.heap.size + 1) 24 #[.int .i64 K, .slice A n c] ∧
    OwnL ((wr.setCell ⟨w.heap.size + 1, 0, none⟩ (.int .i64 K)).setCell ⟨w.heap.size + 1, 1, none⟩ (.slice A n c)) w.heap.size A n c M ∧
    Below w.heap.size w ((wr.setCell ⟨w.heap.size + 1, 0, none⟩ (.int .i64 K)).setCell ⟨w.heap.size + 1, 1, none⟩ (.slice A n c)) := by
  refine ⟨(hR.set_ 0 _).set_ 1 _, ?_, ((below_chain hbx hb (by omega)).setCell (p := ⟨w.heap.size + 1, 0, none⟩) (by simp) (.int .i64 K)).setCell (p := ⟨w.heap.size + 1, 1, none⟩) (by simp) (.slice A n c)⟩
  have gS := only_setCell (only_setCell (World.grownBy.refl wr (some (w.heap.size + 1))) (p := ⟨w.heap.size + 1, 0, none⟩) (.inl rfl) (.int .i64 K)) (p := ⟨w.heap.size + 1, 1, none⟩) (.inl rfl) (.slice A n c)
  refine ⟨(h.row.kept gS ?_).mono (by omega), h.fits, h.le⟩
  cases hb : blk A with
  | none => exact .inl rfl
  | some q => exact .inr (by have := (h.row.lt q hb).1; simp; omega)
set_option maxRecDepth 100000 in
set_option maxHeartbeats 6400000 in
theorem cref_Swap (K : Int) (A : Option Addr) (n c : Nat) (L : List Lt) (w : World) (hA : Lets w A n L) (hs : Tame K L) :
    Calls Tryd.prog 46 #[.agg #[.int .i64 K, .slice A n c]] w (GivesC w K (swapL L)) := by
  have hle := hA.le
  have hLn := Lib.hid hA.len
  have hK0 := hs.lo
  have hK4 := hs.hi
  have HS := Lib.hid hs
  have hbx : Boxed w ((w.alloc (.cells #[.int .i64 K, .slice A n c] 24)).alloc (.cells #[.int .i64 0, .slice none 0 0] 24)) K A n c := (Boxed.refl w K A n c).alloc _
  have hR0 : Blk ((w.alloc (.cells #[.int .i64 K, .slice A n c] 24)).alloc (.cells #[.int .i64 0, .slice none 0 0] 24)) (w.heap.size + 1) 24 #[.int .i64 0, .slice none 0 0] := heap_alloc2_new w _ _
  clear hs
  go_enter Tryd.func46, Tryd.ntmps46
  go_wp2_with fail
  generalize (w.alloc (.cells #[.int .i64 K, .slice A n c] 24)).alloc (.cells #[.int .i64 0, .slice none 0 0] 24) = X at hbx hR0 ⊢
  refine (cref_Copy K A n c L _ (hA.below hbx.below)).mono ?_
  rintro e w1 ⟨A1, n1, c1, rfl, hown, hb1⟩
  obtain rfl : n1 = n := by rw [← hown.len, hLn.out]
  have hX := hR0.lt
  have hsz1 := hb1.size
  have hC0 : Cpy X (w1.alloc (.cells #[.int .i64 K, .slice A1 n1 c1] 24)) w1.heap.size K A1 n1 c1 L :=
    ⟨hown.alloc _, Blk.new _ _ _, fun q hq => Nat.ne_of_lt (hown.row.lt q hq).2, hb1.alloc hsz1 _⟩
  have hst : Hid (Upto swLt L L 0) := Lib.hid (Upto.zero _ _)
  clear hb1 hown
  go_wp2_with fail
  go_loopw [4] (fun v4 wr => ∃ (i : Nat) (Lw : List Lt), i ≤ n1 ∧ v4 = .int .i64 i ∧ Cpy X wr w1.heap.size K A1 n1 c1 Lw ∧ Hid (Upto swLt L Lw i)) (fun v4 _ => n1 - (intOf v4).toNat)
  case atStart => exact ⟨0, L, Nat.zero_le _, rfl, hC0, hst⟩
  case round =>
    obtain ⟨i, Lw, hi, rfl, hC, HU⟩ := hrel
    clear hC0 hst
    have o1 := hC.c1
    have hszr := hC.old.size
    by_cases hlt : i < n1
    · obtain ⟨gg, o, rfl, hgg, hx, hok⟩ := hC.own.lets.at_ hlt
      have hlw : la Lw i = la L i := by rw [HU.out.2 i (by rw [hLn.out]; exact hlt), if_neg (by omega)]
      have hgi : Lw[i]? = some (la L i) := by rw [la_get (by rw [hC.own.len]; exact hlt), hlw]
      rw [hlw] at hx hok
      obtain ⟨y0, y1, y2, y3, y4, y5⟩ := hx
      have i0 : (0 : Int) ≤ (i : Int) := by omega
      have i1 : (i : Int) < (n1 : Int) := by omega
      have f4 := hC.free hlt (i := 4) (by omega)
      have f5 := hC.free hlt (i := 5) (by omega)
      have m1 : gg ≠ w1.heap.size := hC.far gg rfl
      have HOK := Lib.hid hok
      have HGI := Lib.hid hgi
      clear hok hgi hlw
      by_cases hk1 : (la L i).kind = 2
      · have q1 : ((la L i).kind == 2) = true := by simpa using hk1
        have hc2 := isC_t hk1
        have hsg := HS.out.sign i (by rw [hLn.out]; exact hlt) hc2
        have s0 : -1 ≤ (la L i).sign := by omega
        have s1 : (la L i).sign ≤ 1 := by omega
        have HU1 := Lib.hid (HU.out.set (by rw [hLn.out]; exact hlt) (sw_c hc2).symm)
        have hok1 : LtOk { la L i with over := !(la L i).over } := ⟨HOK.out.kind, HOK.out.gate, HOK.out.rank, HOK.out.id, HOK.out.sign⟩
        have hok2 : LtOk { la L i with over := !(la L i).over, sign := -(la L i).sign } := ⟨HOK.out.kind, HOK.out.gate, HOK.out.rank, HOK.out.id, ⟨by simp only []; omega, by simp only []; omega⟩⟩
        have hC1 := hC.put (i := 5) (u := .bool (!(la L i).over)) (x' := { la L i with over := !(la L i).over }) HGI.out (by omega) rfl hok1 rfl
        have hC1d : Cpy X (wr.setCell ⟨gg, o + i * 6 + 5, none⟩ (.bool (!(la L i).over))).drew w1.heap.size K (some ⟨gg, o, none⟩) n1 c1 (Lw.set i { la L i with over := !(la L i).over }) := hC1.next (Below.refl _ _).drew
        have hlw1 : i < Lw.length := by rw [hC.own.len]; exact hlt
        have HLW1 := Lib.hid hlw1
        have HK2 := Lib.hid hok2
        have v1 : IntKind.i64.wrap (-(la L i).sign) = -(la L i).sign := IntWalk.i64_in _ (by omega)
        clear HU hk1 hc2 hsg hok1 hok2 hC1 hC hlw1
        go_wp2_with fail
        go_region
        go_upto_region 7 with fail
        generalize (wr.setCell ⟨gg, o + i * 6 + 5, none⟩ (.bool (!(la L i).over))).drew = V at hC1d ⊢
        have hx5 := (hC1d.own.lets.also hlt).1
        rw [la_set HLW1.out, if_pos rfl] at hx5
        have t4 := hx5.sign
        have t1 := hC1d.c1
        have tf := hC1d.free hlt (i := 4) (by omega)
        have hC2 := hC1d.put (i := 4) (j := i) (x := { la L i with over := !(la L i).over }) (u := .int .i64 (-(la L i).sign)) (x' := { la L i with over := !(la L i).over, sign := -(la L i).sign }) (by rw [List.getElem?_set_self HLW1.out]) (by omega) rfl HK2.out rfl
        rw [List.set_set] at hC2
        clear hC1d hx5 o1 y0 y1 y2 y3 y4 y5 f4 f5
        go_region
        go_wp2_with fail
        go_roundw
        case rel => exact ⟨i + 1, _, by omega, by go_num, by first | exact hC2 | exact hC2.next (Below.refl _ _).drew, HU1⟩
        case measure => simp [intOf]; omega
      · have q1 : ((la L i).kind == 2) = false := by simpa using hk1
        have HU1 := Lib.hid (HU.out.skip (sw_n (x := la L i) (isC_f hk1)))
        clear hk1 HU
        go_wp2_with fail
        go_roundw
        case rel => exact ⟨i + 1, Lw, by omega, by go_num, hC, HU1⟩
        case measure => simp [intOf]; omega
    · have hin : i = n1 := by omega
      have hU := HU.out
      rw [hin, ← hLn.out] at hU
      have hLf := hU.all
      have hown := hC.own
      rw [hLf] at hown
      have i1 : ¬ (i : Int) < (n1 : Int) := by omega
      have hR3 := hR0.below hC.old hX
      have o0 := hC.c0
      have r0 : wr.cell? ⟨w.heap.size + 1, 0, none⟩ = some (.int .i64 0) := (hR3.cell 0).trans rfl
      have r1 : wr.cell? ⟨w.heap.size + 1, 1, none⟩ = some (.slice none 0 0) := (hR3.cell 1).trans rfl
      have z0 := hR3.frozen 0
      have z1 := hR3.frozen 1
      have hG := copy_ends (w := w) (X := X) (K := K) hR3 hC.old hbx.below (by omega) hown
      clear hU hLf hin HU hR3 hown
      go_wp2_with fail
      (try simp only [Exit.inBlock, Exit.then])
      refine ret_cellB rfl rfl hG.1 Tryd.underlying24 rfl (by kernel_rfl) rfl ?_
      exact ⟨A1, n1, c1, rfl, hG.2.1, hG.2.2⟩
end

section
open Go.RowKit
/-- A diagram as the functions that change a code get it. -/
def DiaN (w : World) (p k : Nat) (A : Option Addr) (n c : Nat) (L : List Lt) : Prop :=
  w.cell? ⟨p, 1, none⟩ = some (.slice A n c) ∧ p < w.heap.size ∧ n ≤ c ∧ (0 < n → ∃ base b g2 g3 g4 g6 s P C ids, DiaF w base p k A n c L b g2 g3 g4 g6 s P C ids)
theorem DiaN.next {w w' : World} {p k : Nat} {A : Option Addr} {n c : Nat} {L : List Lt} (h : DiaN w p k A n c L) (hb : Below w.heap.size w w') : DiaN w' p k A n c L := by
  obtain ⟨h1, h2, h3, h4⟩ := h
  refine ⟨(hb.cell (p := ⟨p, 1, none⟩) h2).trans h1, Nat.lt_of_lt_of_le h2 hb.size, h3, fun hn => ?_⟩
  obtain ⟨base, b, g2, g3, g4, g6, s, P, C, ids, hF⟩ := h4 hn
  exact ⟨base, b, g2, g3, g4, g6, s, P, C, ids, hF.next hb⟩
def GivesL (w : World) (L : List Lt) (e : Ending) (w' : World) : Prop := ∃ (A' : Option Addr) (n' c' : Nat), e = .returned (.slice A' n' c') ∧ OwnL w' w.heap.size A' n' c' L ∧ Below w.heap.size w w'
def keepK (K : Int) (L : List Lt) : Int := if checkE K L = 0 then K else 0
def keepL (K : Int) (L M : List Lt) : List Lt := if checkE K L = 0 then M else []
theorem keepK_ok {K : Int} {L : List Lt} (h : checkE K L = 0) : keepK K L = K := by unfold keepK; rw [if_pos h]
theorem keepL_ok {K : Int} {L M : List Lt} (h : checkE K L = 0) : keepL K L M = M := by unfold keepL; rw [if_pos h]
theorem keepK_no {K : Int} {L : List Lt} (h : checkE K L ≠ 0) : keepK K L = 0 := by unfold keepK; rw [if_neg h]
theorem keepL_no {K : Int} {L M : List Lt} (h : checkE K L ≠ 0) : keepL K L M = [] := by unfold keepL; rw [if_neg h]
theorem givesCE_ok {w : World} {K : Int} {L M : List Lt} (h : checkE K L = 0) {e : Ending} {w' : World} (hg : GivesCE w (keepK K L) (keepL K L M) (checkE K L) e w') : GivesCE w K M 0 e w' := by
  rw [keepK_ok h, keepL_ok h, h] at hg
  exact hg
set_option maxRecDepth 100000 in
set_option maxHeartbeats 6400000 in
theorem swap_1 (p k : Nat) (A : Option Addr) (n c : Nat) (L : List Lt) (w : World) (hd : DiaN w p k A n c L) (hA : Lets w A n L) (hs : Tame (k : Int) L) :
    Calls Tryd.prog 92 #[.pointer (some ⟨p, 0, none⟩)] w (GivesL w (swapL L)) := by
  have hle := hA.le
  have hLn := Lib.hid hA.len
  have HS := Lib.hid hs
  obtain ⟨d1, d2, d3, d4⟩ := hd
  have HD4 := Lib.hid d4
  clear d4 hs
  go_enter Tryd.func92, Tryd.ntmps92
  go_wp2_with fail
  refine (clone_letters A n c L _ hA).mono ?_
  rintro e w1 ⟨A1, c1, rfl, hown, hb1⟩
  have hst : Hid (Upto swLt L L 0) := Lib.hid (Upto.zero _ _)
  clear d1
  go_wp2_with fail
  go_loopw [4, 13] (fun _ v13 wr => ∃ (i : Nat) (Lw : List Lt), i ≤ n ∧ v13 = .int .i64 i ∧ OwnL wr w.heap.size A1 n c1 Lw ∧ Below w.heap.size w wr ∧ Hid (Upto swLt L Lw i)) (fun _ v13 _ => n - (intOf v13).toNat)
  case atStart => exact ⟨0, L, Nat.zero_le _, rfl, hown, hb1, hst⟩
  case round =>
    obtain ⟨i, Lw, hi, rfl, hLw, hbr, HU⟩ := hrel
    clear hown hb1 hst
    by_cases hlt : i < n
    · obtain ⟨gg, o, rfl, hgg, hx, hok⟩ := hLw.lets.at_ hlt
      have hlw : la Lw i = la L i := by rw [HU.out.2 i (by rw [hLn.out]; exact hlt), if_neg (by omega)]
      have hgi : Lw[i]? = some (la L i) := by rw [la_get (by rw [hLw.len]; exact hlt), hlw]
      rw [hlw] at hx hok
      obtain ⟨y0, y1, y2, y3, y4, y5⟩ := hx
      have i0 : (0 : Int) ≤ (i : Int) := by omega
      have i1 : (i : Int) < (n : Int) := by omega
      have hcap := hLw.row.cap
      have hgb := (hLw.row.at_ _ rfl).2.1
      simp only [] at hgb
      have hszr := hbr.size
      have f4 : wr.frozen? ⟨gg, o + i * 6 + 4, none⟩ = false := hLw.row.free (j := i * 6 + 4) (by omega)
      have f5 : wr.frozen? ⟨gg, o + i * 6 + 5, none⟩ = false := hLw.row.free (j := i * 6 + 5) (by omega)
      have HOK := Lib.hid hok
      have HGI := Lib.hid hgi
      clear hok hgi hlw
      by_cases hk1 : (la L i).kind = 2
      · have q1 : ((la L i).kind == 2) = true := by simpa using hk1
        have hc2 := isC_t hk1
        have hsg := HS.out.sign i (by rw [hLn.out]; exact hlt) hc2
        have s0 : -1 ≤ (la L i).sign := by omega
        have s1 : (la L i).sign ≤ 1 := by omega
        have HU1 := Lib.hid (HU.out.set (by rw [hLn.out]; exact hlt) (sw_c hc2).symm)
        have hok1 : LtOk { la L i with over := !(la L i).over } := ⟨HOK.out.kind, HOK.out.gate, HOK.out.rank, HOK.out.id, HOK.out.sign⟩
        have hok2 : LtOk { la L i with over := !(la L i).over, sign := -(la L i).sign } := ⟨HOK.out.kind, HOK.out.gate, HOK.out.rank, HOK.out.id, ⟨by simp only []; omega, by simp only []; omega⟩⟩
        have hL1 := hLw.put (i := 5) (u := .bool (!(la L i).over)) (x' := { la L i with over := !(la L i).over }) HGI.out (by omega) rfl hok1 rfl
        have hL2 := hL1.put (i := 4) (j := i) (x := { la L i with over := !(la L i).over }) (u := .int .i64 (-(la L i).sign)) (x' := { la L i with over := !(la L i).over, sign := -(la L i).sign }) (by rw [List.getElem?_set_self (by rw [hLw.len]; exact hlt)]) (by omega) rfl hok2 rfl
        rw [List.set_set] at hL2
        have hb5 := (hbr.setCell (p := ⟨gg, o + (i * 6 + 5), none⟩) hgb (.bool (!(la L i).over))).setCell (p := ⟨gg, o + (i * 6 + 4), none⟩) hgb (.int .i64 (-(la L i).sign))
        have v1 : IntKind.i64.wrap (-(la L i).sign) = -(la L i).sign := IntWalk.i64_in _ (by omega)
        clear HU hk1 hc2 hsg hok1 hok2 hL1 hLw hbr
        go_wp2_with fail
        go_region
        go_wp2_with fail
        go_roundw
        case rel => exact ⟨i + 1, _, by omega, by go_num, by first | exact hL2 | exact hL2.next (Below.refl _ _).drew, by first | exact hb5 | exact hb5.drew, HU1⟩
        case measure => simp [intOf]; omega
      · have q1 : ((la L i).kind == 2) = false := by simpa using hk1
        have HU1 := Lib.hid (HU.out.skip (sw_n (x := la L i) (isC_f hk1)))
        clear hk1 HU
        go_wp2_with fail
        go_roundw
        case rel => exact ⟨i + 1, Lw, by omega, by go_num, hLw, hbr, HU1⟩
        case measure => simp [intOf]; omega
    · have hin : i = n := by omega
      have hU := HU.out
      rw [hin, ← hLn.out] at hU
      have hLf := hU.all
      rw [hLf] at hLw
      have i1 : ¬ (i : Int) < (n : Int) := by omega
      clear hU hLf hin HU
      go_wp2_with fail
      go_ret
      exact ⟨A1, n, c1, rfl, hLw, hbr⟩
set_option maxRecDepth 100000 in
set_option maxHeartbeats 6400000 in
theorem changed_swap (K : Int) (A : Option Addr) (n c : Nat) (L : List Lt) (w : World) (hA : Lets w A n L) (hc : n ≤ c) :
    Calls Tryd.prog 90 #[.agg #[.int .i64 K, .slice A n c], .func (.func 92) #[] #[]] w (GivesCE w (keepK K L) (keepL K L (swapL L)) (checkE K L)) := by
  have hbc0 := build_code0
  have hbc2 := build_code2
  have hbx : Boxed w ((w.alloc (.cells #[.int .i64 K, .slice A n c] 24)).alloc (.cells #[.int .i64 0, .slice none 0 0] 24)) K A n c := (Boxed.refl w K A n c).alloc _
  have hR0 : Blk ((w.alloc (.cells #[.int .i64 K, .slice A n c] 24)).alloc (.cells #[.int .i64 0, .slice none 0 0] 24)) (w.heap.size + 1) 24 #[.int .i64 0, .slice none 0 0] := heap_alloc2_new w _ _
  obtain ⟨E, hE⟩ : ∃ E, checkE K L = E := ⟨_, rfl⟩
  have HE := Lib.hid hE
  clear hE
  go_enter Tryd.func90, Tryd.ntmps90
  go_wp2_with fail
  generalize (w.alloc (.cells #[.int .i64 K, .slice A n c] 24)).alloc (.cells #[.int .i64 0, .slice none 0 0] 24) = X at hbx hR0 ⊢
  refine (code_read K A n c L _ (hA.below hbx.below)).mono ?_
  rintro e w1 ⟨v, rfl, hb1, hok⟩
  have hX := hR0.lt
  have hsX := hb1.size
  have hR1 := hR0.below hb1 hX
  have hb2 := hbx.more hb1
  have x0 := hb2.c0
  have r0 : w1.cell? ⟨w.heap.size + 1, 0, none⟩ = some (.int .i64 0) := (hR1.cell 0).trans rfl
  have r1 : w1.cell? ⟨w.heap.size + 1, 1, none⟩ = some (.slice none 0 0) := (hR1.cell 1).trans rfl
  have z0 := hR1.frozen 0
  have z1 := hR1.frozen 1
  rw [HE.out]
  by_cases hz : E = 0
  · subst hz
    obtain ⟨p, rfl, k, rfl, hk40, hn400, hp, hcase⟩ := hok HE.out
    have HSM := Lib.hid (tame_of_check HE.out)
    have hdn : DiaN w1 p k A n c L := by
      rcases hcase with ⟨h0, hd⟩ | ⟨_, base, b, g2, g3, g4, g6, s, P, C, ids, _, hF⟩
      · exact ⟨hd.c1, hd.lt, hc, fun h => by omega⟩
      · exact ⟨hF.ranks.dia.c1, hF.ranks.dia.lt, hc, fun _ => ⟨base, b, g2, g3, g4, g6, s, P, C, ids, hF⟩⟩
    have hcl : ∀ wx, Below w1.heap.size w1 wx → Calls Tryd.prog 92 #[.pointer (some ⟨p, 0, none⟩)] wx (GivesL wx (swapL L)) := fun wx h => swap_1 p k A n c L wx (hdn.next h) (hA.below (hb2.more h).below) HSM.out
    have k0 : ∀ wx, Below w1.heap.size w1 wx → wx.cell? ⟨w.heap.size, 0, none⟩ = some (.int .i64 (k : Int)) := fun wx h => (hb2.more h).c0
    have k1 : ∀ wx a1 a2, Below w1.heap.size w1 wx → ((wx.setCell ⟨w.heap.size + 1, 0, none⟩ a1).setCell ⟨w.heap.size + 1, 1, none⟩ a2).cell? ⟨w.heap.size, 0, none⟩ = some (.int .i64 (k : Int)) := fun wx a1 a2 h => by
      rw [World.cell?_setCell_other _ _ _ _ (by intro e; injection e with e; omega), World.cell?_setCell_other _ _ _ _ (by intro e; injection e with e; omega)]
      exact (hb2.more h).c0
    have HCL := Lib.hid hcl
    have KP := Lib.hid k0
    have KS := Lib.hid k1
    have HW := hb2.below
    have hlw : w.heap.size + 1 < w1.heap.size := hR1.lt
    clear hcl k0 k1 hok hcase hdn hb2 hbx hR0 hb1 r0 r1 z0 z1
    go_wp2_with fail
    first
      | go_region_held3 (fun wx => wx.cell? ⟨w.heap.size, 0, none⟩ = some (.int .i64 (k : Int))) (first | assumption | exact KP.out _ (Below.refl _ _).drew | exact KP.out _ (by assumption) | exact KS.out _ _ _ (by assumption))
          ((go_at_call 92; refine (HCL.out _ (Below.refl _ _).drew).mono ?_; rintro e wy ⟨A2, n2, c2, rfl, hL2, hb3⟩; have hbz : Below w1.heap.size w1 wy := below_chain (Below.refl w1.heap.size w1).drew hb3 (Nat.le_refl _); have u0 : wy.cell? ⟨w.heap.size + 1, 0, none⟩ = some (.int .i64 0) := ((hR1.below hbz hlw).cell 0).trans rfl; have u1 : wy.cell? ⟨w.heap.size + 1, 1, none⟩ = some (.slice none 0 0) := ((hR1.below hbz hlw).cell 1).trans rfl; have u2 := (hR1.below hbz hlw).frozen 0; have u3 := (hR1.below hbz hlw).frozen 1))
      | fail
    all_goals
      have hRy := hR1.below (by assumption : Below w1.heap.size w1 wy) hlw
      have hG := copy_ends (w := w) (X := w1) (K := (k : Int)) hRy (by assumption : Below w1.heap.size w1 wy) HW hlw hL2
      clear x0 u0 u1 u2 u3 hRy
      go_wp2_with fail
      (try simp only [Exit.inBlock, Exit.then])
      refine ret_cellT rfl rfl rfl hG.1 Tryd.underlying24 rfl (by kernel_rfl) rfl ?_
      exact ⟨A2, n2, c2, by rw [keepK_ok HE.out, HE.out]; rfl, by rw [keepL_ok HE.out]; exact hG.2.1, hG.2.2⟩
  · have q : (E != 0) = true := by simpa using hz
    have hS : Blk ((w1.setCell ⟨w.heap.size + 1, 0, none⟩ (.int .i64 0)).setCell ⟨w.heap.size + 1, 1, none⟩ (.slice none 0 0)) (w.heap.size + 1) 24 #[.int .i64 0, .slice none 0 0] := (hR1.set_ 0 _).set_ 1 _
    have hbS := (hb2.below.setCell (p := ⟨w.heap.size + 1, 0, none⟩) (by simp) (.int .i64 0)).setCell (p := ⟨w.heap.size + 1, 1, none⟩) (by simp) (.slice none 0 0)
    have HZ := Lib.hid hz
    clear hz hok hR0 hR1 hb1 hbx
    go_wp2_with fail
    (try simp only [Exit.inBlock, Exit.then])
    refine ret_cellT rfl rfl rfl hS Tryd.underlying24 rfl (by kernel_rfl) rfl ?_
    exact ⟨none, 0, 0, by rw [keepK_no (by rw [HE.out]; exact HZ.out), HE.out]; rfl, by rw [keepL_no (by rw [HE.out]; exact HZ.out)]; exact OwnL.nil _ _, hbS⟩
set_option maxRecDepth 100000 in
set_option maxHeartbeats 3200000 in
theorem code_swap (K : Int) (A : Option Addr) (n c : Nat) (L : List Lt) (w : World) (hA : Lets w A n L) (hc : n ≤ c) :
    Calls Tryd.prog 42 #[.agg #[.int .i64 K, .slice A n c]] w (GivesCE w (keepK K L) (keepL K L (swapL L)) (checkE K L)) := by
  have hbx : Boxed w ((w.alloc (.cells #[.int .i64 K, .slice A n c] 24)).alloc (.cells #[.int .i64 0, .slice none 0 0] 24)) K A n c := (Boxed.refl w K A n c).alloc _
  have hR0 : Blk ((w.alloc (.cells #[.int .i64 K, .slice A n c] 24)).alloc (.cells #[.int .i64 0, .slice none 0 0] 24)) (w.heap.size + 1) 24 #[.int .i64 0, .slice none 0 0] := heap_alloc2_new w _ _
  obtain ⟨E, hE⟩ : ∃ E, checkE K L = E := ⟨_, rfl⟩
  obtain ⟨K2, hK2⟩ : ∃ K2 : Int, keepK K L = K2 := ⟨_, rfl⟩
  obtain ⟨M, hM⟩ : ∃ M : List Lt, keepL K L (swapL L) = M := ⟨_, rfl⟩
  have hch := fun wx (h : Lets wx A n L) => changed_swap K A n c L wx h hc
  rw [hE, hK2, hM] at hch ⊢
  have HCH := Lib.hid hch
  clear hch hE hK2 hM
  go_enter Tryd.func42, Tryd.ntmps42
  go_wp2_with fail
  generalize (w.alloc (.cells #[.int .i64 K, .slice A n c] 24)).alloc (.cells #[.int .i64 0, .slice none 0 0] 24) = X at hbx hR0 ⊢
  refine (HCH.out _ (hA.below hbx.below)).mono ?_
  rintro e w1 ⟨A1, n1, c1, rfl, hL1, hb1⟩
  have hX := hR0.lt
  have hR1 := hR0.below hb1 hX
  have r0 : w1.cell? ⟨w.heap.size + 1, 0, none⟩ = some (.int .i64 0) := (hR1.cell 0).trans rfl
  have r1 : w1.cell? ⟨w.heap.size + 1, 1, none⟩ = some (.slice none 0 0) := (hR1.cell 1).trans rfl
  have z0 := hR1.frozen 0
  have z1 := hR1.frozen 1
  have hG := copy_ends (w := w) (X := X) (K := K2) hR1 hb1 hbx.below hX hL1
  clear hR0 hR1 hbx hb1
  go_wp2_with fail
  (try simp only [Exit.inBlock, Exit.then])
  refine ret_cellT rfl rfl rfl hG.1 Tryd.underlying24 rfl (by kernel_rfl) rfl ?_
  exact ⟨A1, n1, c1, rfl, hG.2.1, hG.2.2⟩
end
end Go.Proofs.YtkjcmppaapbabaaDoor
