/-
  The law CodeCircles returns true and leaves what was there. Condition: the arguments are ints.
-/
import Derived.Test.YtkjcmppaapbabaaDoorN6
import Derived.Test.YtkjcmppaapbabaaDoorK7
namespace Go.Proofs.YtkjcmppaapbabaaDoor
open Go.RowKit
set_option maxRecDepth 100000 in
set_option maxHeartbeats 3200000 in
theorem codeCircles_any (K i j : Int) (w : World) (hK : I64 K) (hi : I64 i) (hj : I64 j) :
    Calls Tryd.prog 6 #[.int .i64 K, .int .i64 i, .int .i64 j] w fun e w' => e = .returned (.bool true) ∧ Below w.heap.size w w' := by
  have hb0 := build_code0
  have hb1 := build_code1
  have heq0 : ∀ (K1 : Int) (A : Option Addr) (c : Nat) (w : World), Calls Tryd.prog 34 #[.agg #[.int .i64 K1, .slice A 0 c], .agg #[.int .i64 K1, .slice none 0 0]] w fun e w' => e = .returned (.bool true) ∧ Below w.heap.size w w' := fun K1 A c w => by
    refine (cref_Equal K1 K1 A none 0 c 0 0 [] [] w (Lets.nil _ _) (Lets.nil _ _)).mono ?_
    rintro e w' ⟨rfl, hb⟩
    exact ⟨by simp, hb⟩
  have HQ := Lib.hid heq0
  clear heq0
  by_cases hbad : K < 0 ∨ 40 < K
  · have HB := Lib.hid (show bareK K = 0 ∧ bareE K = 2 by
      have : badK K = true := by unfold badK; simp; omega
      unfold bareK bareE; rw [this]; exact ⟨rfl, rfl⟩)
    have hcb : K < 0 ∨ 40 < K ∨ i < 1 ∨ j < i ∨ K < j := by omega
    have HC := Lib.hid (show circK K i j = 0 ∧ circE K i j = 2 ∧ circL K i j = [] by unfold circK circE circL; rw [if_pos hcb, if_pos hcb, if_pos hcb]; exact ⟨rfl, rfl, rfl⟩)
    have hall : K < 0 ∨ (decide (K < 0) = false ∧ 40 < K) := by simp; omega
    clear hbad hcb
    rcases hall with k1 | ⟨k1, k2⟩
    all_goals
      go_enter Tryd.func6, Tryd.ntmps6
      go_wp2_with fail
      refine (code_Bare K _).mono ?_
      rintro e w1 ⟨rfl, hb1'⟩
      rw [HB.out.1, HB.out.2]
      have B1 := Lib.hid hb1'
      clear hb1'
      go_wp2_with fail
      refine (code_Circle K i j hK hi hj _).mono ?_
      rintro e w2 ⟨A, n, rfl, hL2, hb2⟩
      rw [HC.out.1, HC.out.2.1]
      rw [HC.out.2.2] at hL2
      have hn : n = 0 := hL2.len.symm
      subst hn
      have cA : w2.cell? ⟨w1.heap.size, 0, none⟩ = some (.int .i64 0) := (((Blk.new w1 _ _).below hb2 (by simp)).cell 0).trans rfl
      have cB : w2.cell? ⟨w1.heap.size, 1, none⟩ = some (.slice none 0 0) := (((Blk.new w1 _ _).below hb2 (by simp)).cell 1).trans rfl
      have lA : w1.heap.size < w2.heap.size := World.block_lt_of_cell? w2 _ cA
      have B2 := Lib.hid (below_chain (B1.out.alloc B1.out.size _) hb2 (by simp; have := B1.out.size; omega))
      clear hL2 hb2 B1
      go_wp2_with fail
      refine (HQ.out 0 none 0 _).mono ?_
      rintro e w3 ⟨rfl, hb3⟩
      have d3 := (Blk.new w2 24 #[.int .i64 0, .slice A 0 0]).below hb3 (by simp)
      have d0 : w3.cell? ⟨w2.heap.size, 0, none⟩ = some (.int .i64 0) := (d3.cell 0).trans rfl
      have d1 : w3.cell? ⟨w2.heap.size, 1, none⟩ = some (.slice A 0 0) := (d3.cell 1).trans rfl
      have B3 := Lib.hid (below_chain (B2.out.alloc B2.out.size _) hb3 (by simp; have := B2.out.size; omega))
      clear hb3 d3 cA cB lA B2
      go_wp2_with fail
      refine (HQ.out 0 A 0 _).mono ?_
      rintro e w4 ⟨rfl, hb4⟩
      have B4 := Lib.hid (below_chain B3.out hb4 B3.out.size)
      clear hb4 B3 d0 d1
      go_wp2_with fail
      refine (law_known _).mono ?_
      rintro e w5 ⟨rfl, hb5⟩
      have B5 := Lib.hid (below_chain B4.out hb5 B4.out.size)
      clear hb5 B4
      go_wp2_with fail
      go_ret
      exact ⟨rfl, B5.out⟩
  · have k1 : decide (K < 0) = false := by simp; omega
    have k2 : decide (40 < K) = false := by simp; omega
    have HB := Lib.hid (show bareK K = K ∧ bareE K = 0 by
      have : badK K = false := by unfold badK; rw [k1, k2]; rfl
      unfold bareK bareE; rw [this]; exact ⟨rfl, rfl⟩)
    have HBC := Lib.hid (bare_check (K := K) (by omega) (by omega))
    by_cases hcb : i < 1 ∨ j < i ∨ K < j
    · have hcb' : K < 0 ∨ 40 < K ∨ i < 1 ∨ j < i ∨ K < j := by omega
      have HC := Lib.hid (show circK K i j = 0 ∧ circE K i j = 2 ∧ circL K i j = [] by unfold circK circE circL; rw [if_pos hcb', if_pos hcb', if_pos hcb']; exact ⟨rfl, rfl, rfl⟩)
      have hall : i < 1 ∨ (decide (i < 1) = false ∧ (j < i ∨ (decide (j < i) = false ∧ K < j))) := by simp; omega
      clear hbad hcb hcb'
      rcases hall with j1 | ⟨j1, j2 | ⟨j2, j3⟩⟩
      all_goals
        go_enter Tryd.func6, Tryd.ntmps6
        go_wp2_with fail
        refine (code_Bare K _).mono ?_
        rintro e w1 ⟨rfl, hb1'⟩
        rw [HB.out.1, HB.out.2]
        have B1 := Lib.hid hb1'
        clear hb1'
        go_wp2_with fail
        refine (code_Circle K i j hK hi hj _).mono ?_
        rintro e w2 ⟨A, n, rfl, hL2, hb2⟩
        rw [HC.out.1, HC.out.2.1]
        rw [HC.out.2.2] at hL2
        have hn : n = 0 := hL2.len.symm
        subst hn
        have cA0 := (Blk.new w1 24 #[.int .i64 K, .slice none 0 0]).below hb2 (by simp)
        have cA : w2.cell? ⟨w1.heap.size, 0, none⟩ = some (.int .i64 K) := (cA0.cell 0).trans rfl
        have cB : w2.cell? ⟨w1.heap.size, 1, none⟩ = some (.slice none 0 0) := (cA0.cell 1).trans rfl
        have lA := cA0.lt
        have B2 := Lib.hid (below_chain (B1.out.alloc B1.out.size _) hb2 (by simp; have := B1.out.size; omega))
        clear hL2 hb2 B1
        go_wp2_with fail
        refine (HQ.out K none 0 _).mono ?_
        rintro e w3 ⟨rfl, hb3⟩
        have d3 := (Blk.new w2 24 #[.int .i64 0, .slice A 0 0]).below hb3 (by simp)
        have cA3 := (cA0.alloc _).below hb3 (by simp; omega)
        have e0 : w3.cell? ⟨w1.heap.size, 0, none⟩ = some (.int .i64 K) := (cA3.cell 0).trans rfl
        have e1 : w3.cell? ⟨w1.heap.size, 1, none⟩ = some (.slice none 0 0) := (cA3.cell 1).trans rfl
        have B3 := Lib.hid (below_chain (B2.out.alloc B2.out.size _) hb3 (by simp; have := B2.out.size; omega))
        clear hb3 cA cB lA B2 cA0 cA3
        go_wp2_with fail
        refine (code_Check K none 0 0 [] _ (Lets.nil _ _)).mono ?_
        rintro e w4 ⟨rfl, hb4⟩
        rw [HBC.out]
        have d4 := d3.below hb4 d3.lt
        have d0 : w4.cell? ⟨w2.heap.size, 0, none⟩ = some (.int .i64 0) := (d4.cell 0).trans rfl
        have d1 : w4.cell? ⟨w2.heap.size, 1, none⟩ = some (.slice A 0 0) := (d4.cell 1).trans rfl
        have B4 := Lib.hid (below_chain B3.out hb4 B3.out.size)
        clear hb4 B3 d3 d4 e0 e1
        go_wp2_with fail
        refine (HQ.out 0 A 0 _).mono ?_
        rintro e w5 ⟨rfl, hb5⟩
        have B5 := Lib.hid (below_chain B4.out hb5 B4.out.size)
        clear hb5 B4 d0 d1
        go_wp2_with fail
        refine (law_known _).mono ?_
        rintro e w6 ⟨rfl, hb6⟩
        have B6 := Lib.hid (below_chain B5.out hb6 B5.out.size)
        clear hb6 B5
        go_wp2_with fail
        go_ret
        exact ⟨rfl, B6.out⟩
    · have hno : ¬(K < 0 ∨ 40 < K ∨ i < 1 ∨ j < i ∨ K < j) := by omega
      have HC := Lib.hid (show circK K i j = K ∧ circE K i j = 0 ∧ circL K i j = [lpass (i - 1) 1, lpass j 1] by unfold circK circE circL; rw [if_neg hno, if_neg hno, if_neg hno]; exact ⟨rfl, rfl, rfl⟩)
      have j1 : decide (i < 1) = false := by simp; omega
      have j2 : decide (j < i) = false := by simp; omega
      have j3 : decide (K < j) = false := by simp; omega
      have HCC := Lib.hid (circ_check (K := K) (i := i) (j := j) (by omega) (by omega) (by omega) (by omega))
      have i1 : 1 ≤ i := by omega
      have i2 : i ≤ 40 := by omega
      have i3 : 1 ≤ j := by omega
      have i4 : j ≤ 40 := by omega
      have hbl := fun w => buildL2 (lpass (i - 1) 1) (lpass j 1) w
      simp only [ltV, lpass] at hbl
      have hbc := build_code2
      have hok : ∀ x ∈ [lpass (i - 1) 1, lpass j 1], LtOk x := by
        intro x hx
        simp only [List.mem_cons, List.not_mem_nil, or_false] at hx
        rcases hx with rfl | rfl
        · exact ltok_pass (by unfold I64; omega) (by unfold I64; omega)
        · exact ltok_pass (by unfold I64; omega) (by unfold I64; omega)
      have HOK := Lib.hid hok
      clear hbad hcb hno hok
      go_enter Tryd.func6, Tryd.ntmps6
      go_wp2_with fail
      refine (code_Bare K _).mono ?_
      rintro e w1 ⟨rfl, hb1'⟩
      rw [HB.out.1, HB.out.2]
      have B1 := Lib.hid hb1'
      clear hb1'
      go_wp2_with fail
      refine (code_Circle K i j hK hi hj _).mono ?_
      rintro e w2 ⟨A, n, rfl, hL2, hb2⟩
      rw [HC.out.1, HC.out.2.1]
      rw [HC.out.2.2] at hL2
      have hn : n = 2 := hL2.len.symm
      subst hn
      have cA0 := (Blk.new w1 24 #[.int .i64 K, .slice none 0 0]).below hb2 (by simp)
      have cA : w2.cell? ⟨w1.heap.size, 0, none⟩ = some (.int .i64 K) := (cA0.cell 0).trans rfl
      have cB : w2.cell? ⟨w1.heap.size, 1, none⟩ = some (.slice none 0 0) := (cA0.cell 1).trans rfl
      have lA := cA0.lt
      have B2 := Lib.hid (below_chain (B1.out.alloc B1.out.size _) hb2 (by simp; have := B1.out.size; omega))
      clear hb2 B1
      go_wp2_with fail
      refine (HQ.out K none 0 _).mono ?_
      rintro e w3 ⟨rfl, hb3⟩
      have d3 := (Blk.new w2 24 #[.int .i64 K, .slice A 2 2]).below hb3 (by simp)
      have hL3 := (hL2.alloc _).next hb3
      have cA3 := (cA0.alloc _).below hb3 (by simp; omega)
      have e0 : w3.cell? ⟨w1.heap.size, 0, none⟩ = some (.int .i64 K) := (cA3.cell 0).trans rfl
      have e1 : w3.cell? ⟨w1.heap.size, 1, none⟩ = some (.slice none 0 0) := (cA3.cell 1).trans rfl
      have B3 := Lib.hid (below_chain (B2.out.alloc B2.out.size _) hb3 (by simp; have := B2.out.size; omega))
      clear hb3 cA cB lA B2 cA0 cA3 hL2
      go_wp2_with fail
      refine (code_Check K none 0 0 [] _ (Lets.nil _ _)).mono ?_
      rintro e w4 ⟨rfl, hb4⟩
      rw [HBC.out]
      have d4 := d3.below hb4 d3.lt
      have hL4 := hL3.next hb4
      have B4 := Lib.hid (below_chain B3.out hb4 B3.out.size)
      clear hb4 B3 d3 e0 e1 hL3
      go_wp2_with fail
      refine (law_passE (i - 1) 1 _).mono ?_
      rintro e w5 ⟨rfl, hb5⟩
      have d5 := d4.below hb5 d4.lt
      have hL5 := hL4.next hb5
      have B5 := Lib.hid (below_chain B4.out hb5 B4.out.size)
      clear hb5 B4 d4 hL4
      go_wp2_with fail
      refine (law_passE j 1 _).mono ?_
      rintro e w6 ⟨rfl, hb6⟩
      have d6 := d5.below hb6 d5.lt
      have hL6 := hL5.next hb6
      have B6 := Lib.hid (below_chain B5.out hb6 B5.out.size)
      have hw6 := B6.out.size
      clear hb6 B5 d5 hL5
      go_upto_region 10 with fail
      generalize hX : World.alloc (World.alloc w6 _) _ = X
      have hX1 : Blk X w6.heap.size 46 ([lpass (i - 1) 1, lpass j 1].flatMap ltC).toArray := by rw [← hX]; exact (Blk.new w6 _ _).alloc _
      have hX2 : Blk X (w6.heap.size + 1) 24 #[.int .i64 K, .slice (some ⟨w6.heap.size, 0, none⟩) 2 2] := by rw [← hX]; exact heap_alloc2_new w6 _ _
      have hX3 : Blk X w2.heap.size 24 #[.int .i64 K, .slice A 2 2] := by rw [← hX]; exact (d6.alloc _).alloc _
      have hX4 : OwnL X 0 A 2 2 [lpass (i - 1) 1, lpass j 1] := by rw [← hX]; exact ((hL6.alloc _).alloc _).mono (Nat.zero_le _)
      have BX : Hid (Below w.heap.size w X) := Lib.hid (by rw [← hX]; exact (B6.out.alloc hw6 _).alloc (by simp; omega) _)
      clear hX d6 hL6 B6
      have f0 : X.cell? ⟨w2.heap.size, 0, none⟩ = some (.int .i64 K) := (hX3.cell 0).trans rfl
      have f1 : X.cell? ⟨w2.heap.size, 1, none⟩ = some (.slice A 2 2) := (hX3.cell 1).trans rfl
      have f2 : X.cell? ⟨w6.heap.size + 1, 0, none⟩ = some (.int .i64 K) := (hX2.cell 0).trans rfl
      have f3 : X.cell? ⟨w6.heap.size + 1, 1, none⟩ = some (.slice (some ⟨w6.heap.size, 0, none⟩) 2 2) := (hX2.cell 1).trans rfl
      have hLX : OwnL X w.heap.size (some ⟨w6.heap.size, 0, none⟩) 2 2 [lpass (i - 1) 1, lpass j 1] := OwnL.block hX1 hw6 HOK.out (by simp)
      go_wp2_with fail
      refine (cref_Equal K K A (some ⟨w6.heap.size, 0, none⟩) 2 2 2 2 [lpass (i - 1) 1, lpass j 1] [lpass (i - 1) 1, lpass j 1] _ hX4.lets hLX.lets).mono ?_
      rintro e w7 ⟨rfl, hb7⟩
      rw [show (K == K && decide ([lpass (i - 1) 1, lpass j 1] = [lpass (i - 1) 1, lpass j 1])) = true by simp]
      have hL7 := hX4.next hb7
      have d7 := hX3.below hb7 hX3.lt
      have B7 := Lib.hid (below_chain BX.out hb7 BX.out.size)
      clear hb7 BX hX1 hX2 hX3 hX4 hLX f0 f1 f2 f3
      have f0 : w7.cell? ⟨w2.heap.size, 0, none⟩ = some (.int .i64 K) := (d7.cell 0).trans rfl
      have f1 : w7.cell? ⟨w2.heap.size, 1, none⟩ = some (.slice A 2 2) := (d7.cell 1).trans rfl
      go_wp2_with fail
      refine (code_Check K A 2 2 [lpass (i - 1) 1, lpass j 1] _ hL7.lets).mono ?_
      rintro e w8 ⟨rfl, hb8⟩
      rw [HCC.out]
      have B8 := Lib.hid (below_chain B7.out hb8 B7.out.size)
      clear hb8 B7 hL7 d7 f0 f1
      go_wp2_with fail
      refine (law_known _).mono ?_
      rintro e w9 ⟨rfl, hb9⟩
      have B9 := Lib.hid (below_chain B8.out hb9 B8.out.size)
      clear hb9 B8
      go_wp2_with fail
      go_ret
      exact ⟨rfl, B9.out⟩
end Go.Proofs.YtkjcmppaapbabaaDoor
