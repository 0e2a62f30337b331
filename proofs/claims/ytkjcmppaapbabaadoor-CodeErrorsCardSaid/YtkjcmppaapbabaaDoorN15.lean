/-
  The law CodeErrors returns true and leaves what was there. Conditions: the arguments read as a code, an int and a place.
-/
import Derived.Test.YtkjcmppaapbabaaDoorJN
import Derived.Test.YtkjcmppaapbabaaDoorJL
import Derived.Test.YtkjcmppaapbabaaDoorKB
import Derived.Test.YtkjcmppaapbabaaDoorJT
import Derived.Test.YtkjcmppaapbabaaDoorJZ
import Derived.Test.YtkjcmppaapbabaaDoorJR
import Derived.Test.YtkjcmppaapbabaaDoorNY
namespace Go.Proofs.YtkjcmppaapbabaaDoor
open Go.RowKit
/-- The error alone, and the zero code. -/
def GivesZ (w : World) (E : Int) (e : Ending) (w' : World) : Prop := ∃ (A' : Option Addr) (c' : Nat), e = .returned (.tuple #[.agg #[.int .i64 0, .slice A' 0 c'], .int .i64 E]) ∧ Below w.heap.size w w'
theorem gives_z {w : World} {K E : Int} {L : List Lt} {e : Ending} {w' : World} (h : GivesCE w K L E e w') (hK : K = 0) (hL : L = []) : GivesZ w E e w' := by
  obtain ⟨A', n', c', rfl, hO, hb⟩ := h
  subst hK hL
  have hn : n' = 0 := hO.len.symm
  subst hn
  exact ⟨A', c', rfl, hb⟩
theorem codeInfoE : (Tryd.prog.info? 24).map (fun i => (i.zero, i.size, i.bytes)) = some (some (.agg #[.int .i64 0, .slice none 0 0]), 2, 32) := by kernel_rfl
theorem buildC9 (A1 A2 A3 A4 A5 A6 A7 A8 A9 : Option Addr) (r1 r2 r3 r4 r5 r6 r7 r8 r9 : Nat) (w : World) : (Instr.buildSlice 67 9 #[(0, .agg #[.int .i64 0, .slice A1 0 r1]), (1, .agg #[.int .i64 0, .slice A2 0 r2]), (2, .agg #[.int .i64 0, .slice A3 0 r3]), (3, .agg #[.int .i64 0, .slice A4 0 r4]), (4, .agg #[.int .i64 0, .slice A5 0 r5]), (5, .agg #[.int .i64 0, .slice A6 0 r6]), (6, .agg #[.int .i64 0, .slice A7 0 r7]), (7, .agg #[.int .i64 0, .slice A8 0 r8]), (8, .agg #[.int .i64 0, .slice A9 0 r9])]).run Tryd.prog w = .ok (.slice (some ⟨w.heap.size, 0, none⟩) 9 9) (w.alloc (.cells #[.int .i64 0, .slice A1 0 r1, .int .i64 0, .slice A2 0 r2, .int .i64 0, .slice A3 0 r3, .int .i64 0, .slice A4 0 r4, .int .i64 0, .slice A5 0 r5, .int .i64 0, .slice A6 0 r6, .int .i64 0, .slice A7 0 r7, .int .i64 0, .slice A8 0 r8, .int .i64 0, .slice A9 0 r9] 24)) := by
  obtain ⟨i0, hi, hz0, hz1, hz2⟩ := info_parts codeInfoE
  refine run_buildSlice w _ _ 9 _ _ i0 _ Tryd.underlying67 hi hz0 (by rw [hz1]; omega) (by rw [hz1]; omega) ?_
  rw [hz1]
  kernel_rfl
theorem circ_ok2 : checkE 2 [lpass 0 1, lpass 1 1] = 0 := circ_ok
set_option maxRecDepth 100000 in
set_option maxHeartbeats 51200000 in
theorem codeErrors_any (K : Int) (A : Option Addr) (n c : Nat) (L : List Lt) (F pg pl : Int) (w : World) (hA : Lets w A n L) (hc : n ≤ c) (hF : I64 F) (hpg : I64 pg) (hpl : I64 pl) :
    Calls Tryd.prog 16 #[.agg #[.int .i64 K, .slice A n c], .int .i64 F, .agg #[.int .i64 pg, .int .i64 pl]] w fun e w' => e = .returned (.bool true) ∧ Below w.heap.size w w' := by
  have hbx : Boxed w ((w.alloc (.cells #[.int .i64 K, .slice A n c] 24)).alloc (.cells #[.int .i64 pg, .int .i64 pl] 50)) K A n c := (Boxed.refl w K A n c).alloc _
  have bP : Blk ((w.alloc (.cells #[.int .i64 K, .slice A n c] 24)).alloc (.cells #[.int .i64 pg, .int .i64 pl] 50)) (w.heap.size + 1) 50 #[.int .i64 pg, .int .i64 pl] := heap_alloc2_new w _ _
  have hbc0 := build_code0
  have hb9 := buildC9
  by_cases h60 : n ≤ 60
  · have HD := Lib.hid (show decide (n ≤ 60) = true by simpa using h60)
    obtain ⟨E, hE⟩ : ∃ E, checkE K L = E := ⟨_, rfl⟩
    have HE := Lib.hid hE
    clear hE
    by_cases hz : E = 0
    · subst hz
      go_enter Tryd.func16, Tryd.ntmps16
      go_wp2_with fail
      generalize (w.alloc (.cells #[.int .i64 K, .slice A n c] 24)).alloc (.cells #[.int .i64 pg, .int .i64 pl] 50) = X at hbx bP ⊢
      have hbx0 := hbx
      clear hbx
      refine (law_small K A n c L _ (hA.below hbx0.below)).mono ?_
      rintro e w1 ⟨rfl, hb⟩
      rw [HD.out]
      replace bP := bP.below hb bP.lt
      have hbx1 := hbx0.more hb
      clear hbx0 hb
      have c0 := hbx1.c0
      have c1 := hbx1.c1
      go_wp2_with fail
      refine (ref_Check K A n c L _ (hA.below hbx1.below)).mono ?_
      rintro e w2 ⟨rfl, hb⟩
      rw [HE.out]
      clear c0 c1
      replace bP := bP.below hb bP.lt
      have hbx2 := hbx1.more hb
      clear hbx1 hb
      go_wp2_with fail
      refine (law_known _).mono ?_
      rintro e w3 ⟨rfl, hb⟩
      go_wp2_with fail
      go_ret
      exact ⟨rfl, (hbx2.more hb).below⟩
    · have qz : (E == 0) = false := by simpa using hz
      have HNZ := Lib.hid (show checkE K L ≠ 0 by rw [HE.out]; exact hz)
      have qe : (E != E) = false := by simp
      have hz1 : ∀ wx, Lets wx A n L → Calls Tryd.prog 49 #[.agg #[.int .i64 K, .slice A n c]] wx (GivesZ wx E) := fun wx h => (code_Normal K A n c L wx h hc).mono fun e w' hg => by
        rw [HE.out] at hg
        exact gives_z hg (keepK_no HNZ.out) (keepL_no HNZ.out)
      have hz2 : ∀ wx, Lets wx A n L → Calls Tryd.prog 50 #[.agg #[.int .i64 K, .slice A n c]] wx (GivesZ wx E) := fun wx h => (code_rename K A n c L wx h hc).mono fun e w' hg => by
        rw [HE.out] at hg
        exact gives_z hg (keepK_no HNZ.out) (keepL_no HNZ.out)
      have hz3 : ∀ wx, Lets wx A n L → Calls Tryd.prog 62 #[.agg #[.int .i64 K, .slice A n c], .int .i64 F] wx (GivesZ wx E) := fun wx h => (code_Start K F hF A n c L wx h hc).mono fun e w' hg => by
        have he : staE K L F = E := by rw [staE_no HNZ.out, HE.out]
        rw [he] at hg
        exact gives_z hg (by unfold staK; rw [if_neg (by rw [he]; exact hz)]) (by unfold staM; rw [if_neg (by rw [he]; exact hz)])
      have hz4 : ∀ wx, Lets wx A n L → Calls Tryd.prog 41 #[.agg #[.int .i64 K, .slice A n c]] wx (GivesZ wx E) := fun wx h => (code_back K A n c L wx h hc).mono fun e w' hg => by
        rw [HE.out] at hg
        exact gives_z hg (keepK_no HNZ.out) (keepL_no HNZ.out)
      have hz5 : ∀ wx, Lets wx A n L → Calls Tryd.prog 42 #[.agg #[.int .i64 K, .slice A n c]] wx (GivesZ wx E) := fun wx h => (code_swap K A n c L wx h hc).mono fun e w' hg => by
        rw [HE.out] at hg
        exact gives_z hg (keepK_no HNZ.out) (keepL_no HNZ.out)
      have hz6 : ∀ wx, Lets wx A n L → Calls Tryd.prog 43 #[.agg #[.int .i64 K, .slice A n c]] wx (GivesZ wx E) := fun wx h => (code_mirror K A n c L wx h hc).mono fun e w' hg => by
        rw [HE.out] at hg
        exact gives_z hg (keepK_no HNZ.out) (keepL_no HNZ.out)
      have hz7 : ∀ wx, Lets wx A n L → Calls Tryd.prog 44 #[.agg #[.int .i64 K, .slice A n c]] wx (GivesZ wx E) := fun wx h => (code_turn K A n c L wx h hc).mono fun e w' hg => by
        rw [HE.out] at hg
        exact gives_z hg (keepK_no HNZ.out) (keepL_no HNZ.out)
      have hz8 : ∀ wx, Lets wx A n L → Calls Tryd.prog 36 #[.agg #[.int .i64 K, .slice A n c], .int .i64 F] wx (GivesZ wx E) := fun wx h => (code_Forget K F hF A n c L wx h).mono fun e w' hg => by
        have he : forE K L F = E := by unfold forE; rw [if_pos HNZ.out, HE.out]
        obtain ⟨A', n', c', rfl, hO, hb⟩ := hg
        rw [he]
        exact gives_z (K := forK K L F) (L := forL K L F) ⟨A', n', c', rfl, hO, hb⟩ (by unfold forK; rw [if_neg (by rw [he]; exact hz)]) (by unfold forL; rw [if_neg (by rw [he]; exact hz)])
      have hz9 : ∀ wx, Lets wx A n L → Calls Tryd.prog 38 #[.agg #[.int .i64 K, .slice A n c], .agg #[.int .i64 pg, .int .i64 pl]] wx (GivesZ wx E) := fun wx h => (code_Insert K pg pl hpg hpl A n c L wx h).mono fun e w' hg => by
        have he : insE K L pg pl = E := by unfold insE; rw [if_pos HNZ.out, HE.out]
        rw [he] at hg
        exact gives_z hg (by unfold insK; rw [if_neg (by rw [he]; exact hz)]) (by unfold insM; rw [if_neg (by rw [he]; exact hz)])
      have HZ1 := Lib.hid hz1
      have HZ2 := Lib.hid hz2
      have HZ3 := Lib.hid hz3
      have HZ4 := Lib.hid hz4
      have HZ5 := Lib.hid hz5
      have HZ6 := Lib.hid hz6
      have HZ7 := Lib.hid hz7
      have HZ8 := Lib.hid hz8
      have HZ9 := Lib.hid hz9
      clear hz1 hz2 hz3 hz4 hz5 hz6 hz7 hz8 hz9
      have hzw : ∀ wx, Lets wx A n L → Calls Tryd.prog 65 #[.agg #[.int .i64 K, .slice A n c]] wx fun e w' => ∃ A' c', e = .returned (.tuple #[.slice A' 0 c', .int .i64 E]) ∧ Below wx.heap.size wx w' := fun wx h => (code_Word K A n c L wx h hc).mono fun e w' hg => by
        obtain ⟨A', n', c', rfl, hO, hb⟩ := hg
        have hn : n' = 0 := by rw [← hO.len]; unfold worL; rw [if_neg HNZ.out]; rfl
        subst hn
        exact ⟨A', c', by rw [HE.out], hb⟩
      have hzf : ∀ wx, Lets wx A n L → Calls Tryd.prog 23 #[.agg #[.int .i64 K, .slice A n c]] wx fun e w' => ∃ A' c', e = .returned (.tuple #[.slice A' 0 c', .int .i64 E]) ∧ Below wx.heap.size wx w' := fun wx h => (code_Faces K A n c L wx h).mono fun e w' hg => by
        obtain ⟨A', n', c', vs, rfl, hb, _, hn⟩ := hg
        have hn := hn HNZ.out
        subst hn
        exact ⟨A', c', by rw [HE.out], hb⟩
      have hzs : ∀ wx A1 n1 c1, n1 ≤ c1 → Lets wx A1 n1 [lpass 0 1, lpass 1 1] → Lets wx A n L → Calls Tryd.prog 53 #[.agg #[.int .i64 2, .slice A1 n1 c1], .agg #[.int .i64 K, .slice A n c]] wx fun e w' => e = .returned (.tuple #[.bool false, .int .i64 E]) ∧ Below wx.heap.size wx w' := fun wx A1 n1 c1 h1 h2 h => (code_Same 2 K A1 A n1 c1 n c _ L wx h2 h h1 hc).mono fun e w' hg => by
        have he : samE 2 [lpass 0 1, lpass 1 1] K L = E := by unfold samE; rw [if_neg (by rw [circ_ok2]; simp), HE.out]
        rw [he, samV_no (by rw [he]; exact hz)] at hg
        exact hg
      have HZW := Lib.hid hzw
      have HZF := Lib.hid hzf
      have HZS := Lib.hid hzs
      clear hzw hzf hzs hz
      go_enter Tryd.func16, Tryd.ntmps16
      go_wp2_with fail
      generalize (w.alloc (.cells #[.int .i64 K, .slice A n c] 24)).alloc (.cells #[.int .i64 pg, .int .i64 pl] 50) = X at hbx bP ⊢
      have hbx0 := hbx
      clear hbx
      refine (law_small K A n c L _ (hA.below hbx0.below)).mono ?_
      rintro e w1 ⟨rfl, hb⟩
      rw [HD.out]
      replace bP := bP.below hb bP.lt
      have hbx1 := hbx0.more hb
      clear hbx0 hb
      have c0 := hbx1.c0
      have c1 := hbx1.c1
      go_wp2_with fail
      refine (ref_Check K A n c L _ (hA.below hbx1.below)).mono ?_
      rintro e w2 ⟨rfl, hb⟩
      rw [HE.out]
      clear c0 c1
      replace bP := bP.below hb bP.lt
      have hbx2 := hbx1.more hb
      clear hbx1 hb
      have c0 := hbx2.c0
      have c1 := hbx2.c1
      go_wp2_with fail
      clear c0 c1
      refine (HZW.out _ (hA.below hbx2.below)).mono ?_
      rintro e x1 ⟨Aw, cw, rfl, hb⟩
      replace bP := bP.below hb bP.lt
      have hbx3 := hbx2.more hb
      clear hbx2 hb
      have c0 := hbx3.c0
      have c1 := hbx3.c1
      go_wp2_with fail
      clear c0 c1
      refine (HZF.out _ (hA.below hbx3.below)).mono ?_
      rintro e x2 ⟨Af, cf, rfl, hb⟩
      replace bP := bP.below hb bP.lt
      have hbx4 := hbx3.more hb
      clear hbx3 hb
      have c0 := hbx4.c0
      have c1 := hbx4.c1
      go_wp2_with fail
      clear c0 c1
      refine (HZ1.out _ (hA.below hbx4.below)).mono ?_
      rintro e u1 ⟨A1, r1, rfl, hb⟩
      have hbn := (hbx4.more hb).alloc (.cells #[.int .i64 0, .slice A1 0 r1] 24)
      replace bP := (bP.below hb bP.lt).alloc (.cells #[.int .i64 0, .slice A1 0 r1] 24)
      have hB1 := Blk.new u1 24 #[.int .i64 0, .slice A1 0 r1]
      go_upto_region 9 with fail
      generalize u1.alloc (.cells #[.int .i64 0, .slice A1 0 r1] 24) = W1 at hbn bP hB1 ⊢
      have hbx5 := hbn
      clear hbn hbx4 hb
      have c0 := hbx5.c0
      have c1 := hbx5.c1
      go_wp2_with fail
      clear c0 c1
      refine (HZ2.out _ (hA.below hbx5.below)).mono ?_
      rintro e u2 ⟨A2, r2, rfl, hb⟩
      have hbn := (hbx5.more hb).alloc (.cells #[.int .i64 0, .slice A2 0 r2] 24)
      replace bP := (bP.below hb bP.lt).alloc (.cells #[.int .i64 0, .slice A2 0 r2] 24)
      replace hB1 := (hB1.below hb hB1.lt).alloc (.cells #[.int .i64 0, .slice A2 0 r2] 24)
      have hB2 := Blk.new u2 24 #[.int .i64 0, .slice A2 0 r2]
      go_upto_region 10 with fail
      generalize u2.alloc (.cells #[.int .i64 0, .slice A2 0 r2] 24) = W2 at hbn bP hB1 hB2 ⊢
      have hbx6 := hbn
      clear hbn hbx5 hb
      have c0 := hbx6.c0
      have c1 := hbx6.c1
      go_wp2_with fail
      clear c0 c1
      refine (HZ3.out _ (hA.below hbx6.below)).mono ?_
      rintro e u3 ⟨A3, r3, rfl, hb⟩
      have hbn := (hbx6.more hb).alloc (.cells #[.int .i64 0, .slice A3 0 r3] 24)
      replace bP := (bP.below hb bP.lt).alloc (.cells #[.int .i64 0, .slice A3 0 r3] 24)
      replace hB1 := (hB1.below hb hB1.lt).alloc (.cells #[.int .i64 0, .slice A3 0 r3] 24)
      replace hB2 := (hB2.below hb hB2.lt).alloc (.cells #[.int .i64 0, .slice A3 0 r3] 24)
      have hB3 := Blk.new u3 24 #[.int .i64 0, .slice A3 0 r3]
      go_upto_region 11 with fail
      generalize u3.alloc (.cells #[.int .i64 0, .slice A3 0 r3] 24) = W3 at hbn bP hB1 hB2 hB3 ⊢
      have hbx7 := hbn
      clear hbn hbx6 hb
      have c0 := hbx7.c0
      have c1 := hbx7.c1
      go_wp2_with fail
      clear c0 c1
      refine (HZ4.out _ (hA.below hbx7.below)).mono ?_
      rintro e u4 ⟨A4, r4, rfl, hb⟩
      have hbn := (hbx7.more hb).alloc (.cells #[.int .i64 0, .slice A4 0 r4] 24)
      replace bP := (bP.below hb bP.lt).alloc (.cells #[.int .i64 0, .slice A4 0 r4] 24)
      replace hB1 := (hB1.below hb hB1.lt).alloc (.cells #[.int .i64 0, .slice A4 0 r4] 24)
      replace hB2 := (hB2.below hb hB2.lt).alloc (.cells #[.int .i64 0, .slice A4 0 r4] 24)
      replace hB3 := (hB3.below hb hB3.lt).alloc (.cells #[.int .i64 0, .slice A4 0 r4] 24)
      have hB4 := Blk.new u4 24 #[.int .i64 0, .slice A4 0 r4]
      go_upto_region 12 with fail
      generalize u4.alloc (.cells #[.int .i64 0, .slice A4 0 r4] 24) = W4 at hbn bP hB1 hB2 hB3 hB4 ⊢
      have hbx8 := hbn
      clear hbn hbx7 hb
      have c0 := hbx8.c0
      have c1 := hbx8.c1
      go_wp2_with fail
      clear c0 c1
      refine (HZ5.out _ (hA.below hbx8.below)).mono ?_
      rintro e u5 ⟨A5, r5, rfl, hb⟩
      have hbn := (hbx8.more hb).alloc (.cells #[.int .i64 0, .slice A5 0 r5] 24)
      replace bP := (bP.below hb bP.lt).alloc (.cells #[.int .i64 0, .slice A5 0 r5] 24)
      replace hB1 := (hB1.below hb hB1.lt).alloc (.cells #[.int .i64 0, .slice A5 0 r5] 24)
      replace hB2 := (hB2.below hb hB2.lt).alloc (.cells #[.int .i64 0, .slice A5 0 r5] 24)
      replace hB3 := (hB3.below hb hB3.lt).alloc (.cells #[.int .i64 0, .slice A5 0 r5] 24)
      replace hB4 := (hB4.below hb hB4.lt).alloc (.cells #[.int .i64 0, .slice A5 0 r5] 24)
      have hB5 := Blk.new u5 24 #[.int .i64 0, .slice A5 0 r5]
      go_upto_region 13 with fail
      generalize u5.alloc (.cells #[.int .i64 0, .slice A5 0 r5] 24) = W5 at hbn bP hB1 hB2 hB3 hB4 hB5 ⊢
      have hbx9 := hbn
      clear hbn hbx8 hb
      have c0 := hbx9.c0
      have c1 := hbx9.c1
      go_wp2_with fail
      clear c0 c1
      refine (HZ6.out _ (hA.below hbx9.below)).mono ?_
      rintro e u6 ⟨A6, r6, rfl, hb⟩
      have hbn := (hbx9.more hb).alloc (.cells #[.int .i64 0, .slice A6 0 r6] 24)
      replace bP := (bP.below hb bP.lt).alloc (.cells #[.int .i64 0, .slice A6 0 r6] 24)
      replace hB1 := (hB1.below hb hB1.lt).alloc (.cells #[.int .i64 0, .slice A6 0 r6] 24)
      replace hB2 := (hB2.below hb hB2.lt).alloc (.cells #[.int .i64 0, .slice A6 0 r6] 24)
      replace hB3 := (hB3.below hb hB3.lt).alloc (.cells #[.int .i64 0, .slice A6 0 r6] 24)
      replace hB4 := (hB4.below hb hB4.lt).alloc (.cells #[.int .i64 0, .slice A6 0 r6] 24)
      replace hB5 := (hB5.below hb hB5.lt).alloc (.cells #[.int .i64 0, .slice A6 0 r6] 24)
      have hB6 := Blk.new u6 24 #[.int .i64 0, .slice A6 0 r6]
      go_upto_region 14 with fail
      generalize u6.alloc (.cells #[.int .i64 0, .slice A6 0 r6] 24) = W6 at hbn bP hB1 hB2 hB3 hB4 hB5 hB6 ⊢
      have hbx10 := hbn
      clear hbn hbx9 hb
      have c0 := hbx10.c0
      have c1 := hbx10.c1
      go_wp2_with fail
      clear c0 c1
      refine (HZ7.out _ (hA.below hbx10.below)).mono ?_
      rintro e u7 ⟨A7, r7, rfl, hb⟩
      have hbn := (hbx10.more hb).alloc (.cells #[.int .i64 0, .slice A7 0 r7] 24)
      replace bP := (bP.below hb bP.lt).alloc (.cells #[.int .i64 0, .slice A7 0 r7] 24)
      replace hB1 := (hB1.below hb hB1.lt).alloc (.cells #[.int .i64 0, .slice A7 0 r7] 24)
      replace hB2 := (hB2.below hb hB2.lt).alloc (.cells #[.int .i64 0, .slice A7 0 r7] 24)
      replace hB3 := (hB3.below hb hB3.lt).alloc (.cells #[.int .i64 0, .slice A7 0 r7] 24)
      replace hB4 := (hB4.below hb hB4.lt).alloc (.cells #[.int .i64 0, .slice A7 0 r7] 24)
      replace hB5 := (hB5.below hb hB5.lt).alloc (.cells #[.int .i64 0, .slice A7 0 r7] 24)
      replace hB6 := (hB6.below hb hB6.lt).alloc (.cells #[.int .i64 0, .slice A7 0 r7] 24)
      have hB7 := Blk.new u7 24 #[.int .i64 0, .slice A7 0 r7]
      go_upto_region 15 with fail
      generalize u7.alloc (.cells #[.int .i64 0, .slice A7 0 r7] 24) = W7 at hbn bP hB1 hB2 hB3 hB4 hB5 hB6 hB7 ⊢
      have hbx11 := hbn
      clear hbn hbx10 hb
      have c0 := hbx11.c0
      have c1 := hbx11.c1
      go_wp2_with fail
      clear c0 c1
      refine (HZ8.out _ (hA.below hbx11.below)).mono ?_
      rintro e u8 ⟨A8, r8, rfl, hb⟩
      have hbn := (hbx11.more hb).alloc (.cells #[.int .i64 0, .slice A8 0 r8] 24)
      replace bP := (bP.below hb bP.lt).alloc (.cells #[.int .i64 0, .slice A8 0 r8] 24)
      replace hB1 := (hB1.below hb hB1.lt).alloc (.cells #[.int .i64 0, .slice A8 0 r8] 24)
      replace hB2 := (hB2.below hb hB2.lt).alloc (.cells #[.int .i64 0, .slice A8 0 r8] 24)
      replace hB3 := (hB3.below hb hB3.lt).alloc (.cells #[.int .i64 0, .slice A8 0 r8] 24)
      replace hB4 := (hB4.below hb hB4.lt).alloc (.cells #[.int .i64 0, .slice A8 0 r8] 24)
      replace hB5 := (hB5.below hb hB5.lt).alloc (.cells #[.int .i64 0, .slice A8 0 r8] 24)
      replace hB6 := (hB6.below hb hB6.lt).alloc (.cells #[.int .i64 0, .slice A8 0 r8] 24)
      replace hB7 := (hB7.below hb hB7.lt).alloc (.cells #[.int .i64 0, .slice A8 0 r8] 24)
      have hB8 := Blk.new u8 24 #[.int .i64 0, .slice A8 0 r8]
      go_upto_region 16 with fail
      generalize u8.alloc (.cells #[.int .i64 0, .slice A8 0 r8] 24) = W8 at hbn bP hB1 hB2 hB3 hB4 hB5 hB6 hB7 hB8 ⊢
      have hbx12 := hbn
      clear hbn hbx11 hb
      have c0 := hbx12.c0
      have c1 := hbx12.c1
      have e0 := ((bP.cell 0).trans rfl : W8.cell? ⟨w.heap.size + 1, 0, none⟩ = some (.int .i64 pg))
      have e1 := ((bP.cell 1).trans rfl : W8.cell? ⟨w.heap.size + 1, 1, none⟩ = some (.int .i64 pl))
      go_wp2_with fail
      clear c0 c1 e0 e1
      refine (HZ9.out _ (hA.below hbx12.below)).mono ?_
      rintro e u9 ⟨A9, r9, rfl, hb⟩
      have hbn := (hbx12.more hb).alloc (.cells #[.int .i64 0, .slice A9 0 r9] 24)
      replace bP := (bP.below hb bP.lt).alloc (.cells #[.int .i64 0, .slice A9 0 r9] 24)
      replace hB1 := (hB1.below hb hB1.lt).alloc (.cells #[.int .i64 0, .slice A9 0 r9] 24)
      replace hB2 := (hB2.below hb hB2.lt).alloc (.cells #[.int .i64 0, .slice A9 0 r9] 24)
      replace hB3 := (hB3.below hb hB3.lt).alloc (.cells #[.int .i64 0, .slice A9 0 r9] 24)
      replace hB4 := (hB4.below hb hB4.lt).alloc (.cells #[.int .i64 0, .slice A9 0 r9] 24)
      replace hB5 := (hB5.below hb hB5.lt).alloc (.cells #[.int .i64 0, .slice A9 0 r9] 24)
      replace hB6 := (hB6.below hb hB6.lt).alloc (.cells #[.int .i64 0, .slice A9 0 r9] 24)
      replace hB7 := (hB7.below hb hB7.lt).alloc (.cells #[.int .i64 0, .slice A9 0 r9] 24)
      replace hB8 := (hB8.below hb hB8.lt).alloc (.cells #[.int .i64 0, .slice A9 0 r9] 24)
      have hB9 := Blk.new u9 24 #[.int .i64 0, .slice A9 0 r9]
      go_upto_region 17 with fail
      generalize u9.alloc (.cells #[.int .i64 0, .slice A9 0 r9] 24) = W9 at hbn bP hB1 hB2 hB3 hB4 hB5 hB6 hB7 hB8 hB9 ⊢
      have hbx13 := hbn
      clear hbn hbx12 hb
      have k1 : ∀ wx, Below W9.heap.size W9 wx → wx.cell? ⟨w.heap.size, 0, none⟩ = some (.int .i64 K) ∧ wx.cell? ⟨w.heap.size, 1, none⟩ = some (.slice A n c) := fun wx h => ⟨(hbx13.more h).c0, (hbx13.more h).c1⟩
      have k2 : ∀ wx, Below W9.heap.size W9 wx → Lets wx A n L := fun wx h => (hA.below (hbx13.more h).below)
      have KP := Lib.hid k1
      have KL := Lib.hid k2
      have c0 := hbx13.c0
      have c1 := hbx13.c1
      clear k1 k2
      go_cut [30, 31] (fun v30 v31 wz => v30 = .bool false ∧ v31 = .int .i64 E ∧ Below W9.heap.size W9 wz)
      case first =>
        first
          | go_region_held3 (fun wx => Below W9.heap.size W9 wx ∧ wx.cell? ⟨w.heap.size, 0, none⟩ = some (.int .i64 K) ∧ wx.cell? ⟨w.heap.size, 1, none⟩ = some (.slice A n c)) (first | assumption | exact ⟨(Below.refl _ _).drew, KP.out _ (Below.refl _ _).drew⟩ | exact ⟨below_chain (And.left (by assumption)) (by assumption) (Below.size (And.left (by assumption))), KP.out _ (below_chain (And.left (by assumption)) (by assumption) (Below.size (And.left (by assumption))))⟩)
              (first
                | ((go_at_call 68; refine (law_circle _).mono ?_; rintro e y1 ⟨gc, rfl, hOc, hy1⟩))
                | ((go_at_call 53; refine (HZS.out _ _ _ _ (Nat.le_refl _) hOc.lets (KL.out _ (And.left (by assumption)))).mono ?_; rintro e y2 ⟨rfl, hy2⟩)))
          | fail
        all_goals
          have hbf := And.left (show Below W9.heap.size W9 _ ∧ _ by assumption)
          go_wp2_with fail
          go_meet
        all_goals exact ⟨rfl, rfl, hbf⟩
      case rest =>
        obtain ⟨rfl, rfl, hb⟩ := hcut
        clear c0 c1 KP KL
        replace bP := bP.below hb bP.lt
        replace hB1 := hB1.below hb hB1.lt
        replace hB2 := hB2.below hb hB2.lt
        replace hB3 := hB3.below hb hB3.lt
        replace hB4 := hB4.below hb hB4.lt
        replace hB5 := hB5.below hb hB5.lt
        replace hB6 := hB6.below hb hB6.lt
        replace hB7 := hB7.below hb hB7.lt
        replace hB8 := hB8.below hb hB8.lt
        replace hB9 := hB9.below hb hB9.lt
        have hbx14 := hbx13.more hb
        clear hbx13 hb
        have g1 := ((hB1.cell 0).trans rfl : wc.cell? ⟨u1.heap.size, 0, none⟩ = some (.int .i64 0))
        have h1 := ((hB1.cell 1).trans rfl : wc.cell? ⟨u1.heap.size, 1, none⟩ = some (.slice A1 0 r1))
        have g2 := ((hB2.cell 0).trans rfl : wc.cell? ⟨u2.heap.size, 0, none⟩ = some (.int .i64 0))
        have h2 := ((hB2.cell 1).trans rfl : wc.cell? ⟨u2.heap.size, 1, none⟩ = some (.slice A2 0 r2))
        have g3 := ((hB3.cell 0).trans rfl : wc.cell? ⟨u3.heap.size, 0, none⟩ = some (.int .i64 0))
        have h3 := ((hB3.cell 1).trans rfl : wc.cell? ⟨u3.heap.size, 1, none⟩ = some (.slice A3 0 r3))
        have g4 := ((hB4.cell 0).trans rfl : wc.cell? ⟨u4.heap.size, 0, none⟩ = some (.int .i64 0))
        have h4 := ((hB4.cell 1).trans rfl : wc.cell? ⟨u4.heap.size, 1, none⟩ = some (.slice A4 0 r4))
        have g5 := ((hB5.cell 0).trans rfl : wc.cell? ⟨u5.heap.size, 0, none⟩ = some (.int .i64 0))
        have h5 := ((hB5.cell 1).trans rfl : wc.cell? ⟨u5.heap.size, 1, none⟩ = some (.slice A5 0 r5))
        have g6 := ((hB6.cell 0).trans rfl : wc.cell? ⟨u6.heap.size, 0, none⟩ = some (.int .i64 0))
        have h6 := ((hB6.cell 1).trans rfl : wc.cell? ⟨u6.heap.size, 1, none⟩ = some (.slice A6 0 r6))
        have g7 := ((hB7.cell 0).trans rfl : wc.cell? ⟨u7.heap.size, 0, none⟩ = some (.int .i64 0))
        have h7 := ((hB7.cell 1).trans rfl : wc.cell? ⟨u7.heap.size, 1, none⟩ = some (.slice A7 0 r7))
        have g8 := ((hB8.cell 0).trans rfl : wc.cell? ⟨u8.heap.size, 0, none⟩ = some (.int .i64 0))
        have h8 := ((hB8.cell 1).trans rfl : wc.cell? ⟨u8.heap.size, 1, none⟩ = some (.slice A8 0 r8))
        have g9 := ((hB9.cell 0).trans rfl : wc.cell? ⟨u9.heap.size, 0, none⟩ = some (.int .i64 0))
        have h9 := ((hB9.cell 1).trans rfl : wc.cell? ⟨u9.heap.size, 1, none⟩ = some (.slice A9 0 r9))
        go_upto_region 21 with fail
        have hZ := Blk.new wc 24 #[.int .i64 0, .slice none 0 0]
        have hbn := hbx14.alloc (.cells #[.int .i64 0, .slice none 0 0] 24)
        replace hB1 := hB1.alloc (.cells #[.int .i64 0, .slice none 0 0] 24)
        replace hB2 := hB2.alloc (.cells #[.int .i64 0, .slice none 0 0] 24)
        replace hB3 := hB3.alloc (.cells #[.int .i64 0, .slice none 0 0] 24)
        replace hB4 := hB4.alloc (.cells #[.int .i64 0, .slice none 0 0] 24)
        replace hB5 := hB5.alloc (.cells #[.int .i64 0, .slice none 0 0] 24)
        replace hB6 := hB6.alloc (.cells #[.int .i64 0, .slice none 0 0] 24)
        replace hB7 := hB7.alloc (.cells #[.int .i64 0, .slice none 0 0] 24)
        replace hB8 := hB8.alloc (.cells #[.int .i64 0, .slice none 0 0] 24)
        replace hB9 := hB9.alloc (.cells #[.int .i64 0, .slice none 0 0] 24)
        clear g1 h1 g2 h2 g3 h3 g4 h4 g5 h5 g6 h6 g7 h7 g8 h8 g9 h9
        generalize wc.alloc (.cells #[.int .i64 0, .slice none 0 0] 24) = V at hZ hbn hB1 hB2 hB3 hB4 hB5 hB6 hB7 hB8 hB9 ⊢
        have g1 := ((hB1.cell 0).trans rfl : V.cell? ⟨u1.heap.size, 0, none⟩ = some (.int .i64 0))
        have h1 := ((hB1.cell 1).trans rfl : V.cell? ⟨u1.heap.size, 1, none⟩ = some (.slice A1 0 r1))
        have g2 := ((hB2.cell 0).trans rfl : V.cell? ⟨u2.heap.size, 0, none⟩ = some (.int .i64 0))
        have h2 := ((hB2.cell 1).trans rfl : V.cell? ⟨u2.heap.size, 1, none⟩ = some (.slice A2 0 r2))
        have g3 := ((hB3.cell 0).trans rfl : V.cell? ⟨u3.heap.size, 0, none⟩ = some (.int .i64 0))
        have h3 := ((hB3.cell 1).trans rfl : V.cell? ⟨u3.heap.size, 1, none⟩ = some (.slice A3 0 r3))
        have g4 := ((hB4.cell 0).trans rfl : V.cell? ⟨u4.heap.size, 0, none⟩ = some (.int .i64 0))
        have h4 := ((hB4.cell 1).trans rfl : V.cell? ⟨u4.heap.size, 1, none⟩ = some (.slice A4 0 r4))
        have g5 := ((hB5.cell 0).trans rfl : V.cell? ⟨u5.heap.size, 0, none⟩ = some (.int .i64 0))
        have h5 := ((hB5.cell 1).trans rfl : V.cell? ⟨u5.heap.size, 1, none⟩ = some (.slice A5 0 r5))
        have g6 := ((hB6.cell 0).trans rfl : V.cell? ⟨u6.heap.size, 0, none⟩ = some (.int .i64 0))
        have h6 := ((hB6.cell 1).trans rfl : V.cell? ⟨u6.heap.size, 1, none⟩ = some (.slice A6 0 r6))
        have g7 := ((hB7.cell 0).trans rfl : V.cell? ⟨u7.heap.size, 0, none⟩ = some (.int .i64 0))
        have h7 := ((hB7.cell 1).trans rfl : V.cell? ⟨u7.heap.size, 1, none⟩ = some (.slice A7 0 r7))
        have g8 := ((hB8.cell 0).trans rfl : V.cell? ⟨u8.heap.size, 0, none⟩ = some (.int .i64 0))
        have h8 := ((hB8.cell 1).trans rfl : V.cell? ⟨u8.heap.size, 1, none⟩ = some (.slice A8 0 r8))
        have g9 := ((hB9.cell 0).trans rfl : V.cell? ⟨u9.heap.size, 0, none⟩ = some (.int .i64 0))
        have h9 := ((hB9.cell 1).trans rfl : V.cell? ⟨u9.heap.size, 1, none⟩ = some (.slice A9 0 r9))
        have hG := Blk.new V 24 #[.int .i64 0, .slice A1 0 r1, .int .i64 0, .slice A2 0 r2, .int .i64 0, .slice A3 0 r3, .int .i64 0, .slice A4 0 r4, .int .i64 0, .slice A5 0 r5, .int .i64 0, .slice A6 0 r6, .int .i64 0, .slice A7 0 r7, .int .i64 0, .slice A8 0 r8, .int .i64 0, .slice A9 0 r9]
        have hbn2 := hbn.alloc (.cells #[.int .i64 0, .slice A1 0 r1, .int .i64 0, .slice A2 0 r2, .int .i64 0, .slice A3 0 r3, .int .i64 0, .slice A4 0 r4, .int .i64 0, .slice A5 0 r5, .int .i64 0, .slice A6 0 r6, .int .i64 0, .slice A7 0 r7, .int .i64 0, .slice A8 0 r8, .int .i64 0, .slice A9 0 r9] 24)
        replace hZ := hZ.alloc (.cells #[.int .i64 0, .slice A1 0 r1, .int .i64 0, .slice A2 0 r2, .int .i64 0, .slice A3 0 r3, .int .i64 0, .slice A4 0 r4, .int .i64 0, .slice A5 0 r5, .int .i64 0, .slice A6 0 r6, .int .i64 0, .slice A7 0 r7, .int .i64 0, .slice A8 0 r8, .int .i64 0, .slice A9 0 r9] 24)
        go_upto_region 22 with fail
        generalize V.alloc (.cells #[.int .i64 0, .slice A1 0 r1, .int .i64 0, .slice A2 0 r2, .int .i64 0, .slice A3 0 r3, .int .i64 0, .slice A4 0 r4, .int .i64 0, .slice A5 0 r5, .int .i64 0, .slice A6 0 r6, .int .i64 0, .slice A7 0 r7, .int .i64 0, .slice A8 0 r8, .int .i64 0, .slice A9 0 r9] 24) = V2 at hG hbn2 hZ ⊢
        clear hbx14 hbn g1 h1 g2 h2 g3 h3 g4 h4 g5 h5 g6 h6 g7 h7 g8 h8 g9 h9 hB1 hB2 hB3 hB4 hB5 hB6 hB7 hB8 hB9 bP
        have hall : ∀ j : Nat, j < 9 → ∃ Aj rj, ∀ wr, Below V2.heap.size V2 wr → wr.cell? ⟨V.heap.size, j * 2, none⟩ = some (.int .i64 0) ∧ wr.cell? ⟨V.heap.size, j * 2 + 1, none⟩ = some (.slice Aj 0 rj) := by
          intro j hj
          have key : ∀ (Aj : Option Addr) (rj : Nat), (#[.int .i64 0, .slice A1 0 r1, .int .i64 0, .slice A2 0 r2, .int .i64 0, .slice A3 0 r3, .int .i64 0, .slice A4 0 r4, .int .i64 0, .slice A5 0 r5, .int .i64 0, .slice A6 0 r6, .int .i64 0, .slice A7 0 r7, .int .i64 0, .slice A8 0 r8, .int .i64 0, .slice A9 0 r9] : Array Value)[j * 2]? = some (.int .i64 0) → (#[.int .i64 0, .slice A1 0 r1, .int .i64 0, .slice A2 0 r2, .int .i64 0, .slice A3 0 r3, .int .i64 0, .slice A4 0 r4, .int .i64 0, .slice A5 0 r5, .int .i64 0, .slice A6 0 r6, .int .i64 0, .slice A7 0 r7, .int .i64 0, .slice A8 0 r8, .int .i64 0, .slice A9 0 r9] : Array Value)[j * 2 + 1]? = some (.slice Aj 0 rj) → ∃ Aj rj, ∀ wr, Below V2.heap.size V2 wr → wr.cell? ⟨V.heap.size, j * 2, none⟩ = some (.int .i64 0) ∧ wr.cell? ⟨V.heap.size, j * 2 + 1, none⟩ = some (.slice Aj 0 rj) :=
            fun Aj rj h0 h1 => ⟨Aj, rj, fun wr h => ⟨((hG.below h hG.lt).cell (j * 2)).trans h0, ((hG.below h hG.lt).cell (j * 2 + 1)).trans h1⟩⟩
          rcases (show j = 0 ∨ j = 1 ∨ j = 2 ∨ j = 3 ∨ j = 4 ∨ j = 5 ∨ j = 6 ∨ j = 7 ∨ j = 8 by omega) with rfl | rfl | rfl | rfl | rfl | rfl | rfl | rfl | rfl
          · exact key A1 r1 rfl rfl
          · exact key A2 r2 rfl rfl
          · exact key A3 r3 rfl rfl
          · exact key A4 r4 rfl rfl
          · exact key A5 r5 rfl rfl
          · exact key A6 r6 rfl rfl
          · exact key A7 r7 rfl rfl
          · exact key A8 r8 rfl rfl
          · exact key A9 r9 rfl rfl
        have HALL := Lib.hid hall
        clear hall hG
        go_wp2_with fail
        go_loopw [34] (fun v34 wr => ∃ j : Nat, j ≤ 9 ∧ v34 = .int .i64 j ∧ Below V2.heap.size V2 wr) (fun v34 _ => 9 - (intOf v34).toNat)
        case atStart => exact ⟨0, by omega, rfl, Below.refl _ _⟩
        case round =>
          obtain ⟨j, hj, rfl, hbr⟩ := hrel
          have hZr := hZ.below hbr hZ.lt
          have z0 : wr.cell? ⟨wc.heap.size, 0, none⟩ = some (.int .i64 0) := (hZr.cell 0).trans rfl
          have z1 : wr.cell? ⟨wc.heap.size, 1, none⟩ = some (.slice none 0 0) := (hZr.cell 1).trans rfl
          by_cases hlt : j < 9
          · obtain ⟨Aj, rj, hcj⟩ := HALL.out j hlt
            obtain ⟨d0, d1⟩ := hcj wr hbr
            have j0 : (0 : Int) ≤ (j : Int) := by omega
            have j1 : (j : Int) < 9 := by omega
            have KP := Lib.hid (show ∀ wx, Below wr.heap.size wr wx → Below wr.heap.size wr wx ∧ wx.cell? ⟨wc.heap.size, 0, none⟩ = some (.int .i64 0) ∧ wx.cell? ⟨wc.heap.size, 1, none⟩ = some (.slice none 0 0) ∧ wx.cell? ⟨V.heap.size, j * 2, none⟩ = some (.int .i64 0) ∧ wx.cell? ⟨V.heap.size, j * 2 + 1, none⟩ = some (.slice Aj 0 rj) from fun wx h =>
              ⟨h, ((hZr.below h hZr.lt).cell 0).trans rfl, ((hZr.below h hZr.lt).cell 1).trans rfl, hcj wx (below_chain hbr h hbr.size)⟩)
            clear hcj hZr
            go_wp2_with fail
            first
              | go_region_held3 (fun wx => Below wr.heap.size wr wx ∧ wx.cell? ⟨wc.heap.size, 0, none⟩ = some (.int .i64 0) ∧ wx.cell? ⟨wc.heap.size, 1, none⟩ = some (.slice none 0 0) ∧ wx.cell? ⟨V.heap.size, j * 2, none⟩ = some (.int .i64 0) ∧ wx.cell? ⟨V.heap.size, j * 2 + 1, none⟩ = some (.slice Aj 0 rj)) (first | assumption | exact KP.out _ (Below.refl _ _).drew | exact KP.out _ (below_chain (And.left (by assumption)) (by assumption) (Below.size (And.left (by assumption)))))
                  ((go_at_call 34; refine (equal_z Aj 0 rj _ (Lets.nil _ _)).mono ?_; rintro e y1 ⟨rfl, hy1⟩))
              | fail
            all_goals
              have hbf := And.left (show Below wr.heap.size wr _ ∧ _ by assumption)
              go_wp2_with fail
              go_roundw
              case rel => exact ⟨j + 1, by omega, by go_num, below_chain hbr hbf hbr.size⟩
              case measure => simp [intOf]; omega
          · have hj9 : j = 9 := by omega
            subst hj9
            clear hZr z0 z1 hZ
            go_wp2_with fail
            refine (law_known _).mono ?_
            rintro e zz ⟨rfl, hb⟩
            go_wp2_with fail
            go_ret
            exact ⟨rfl, (hbn2.more (below_chain hbr hb hbr.size)).below⟩
  · have HD := Lib.hid (show decide (n ≤ 60) = false by simpa using h60)
    go_enter Tryd.func16, Tryd.ntmps16
    go_wp2_with fail
    generalize (w.alloc (.cells #[.int .i64 K, .slice A n c] 24)).alloc (.cells #[.int .i64 pg, .int .i64 pl] 50) = X at hbx bP ⊢
    have hbx0 := hbx
    clear hbx
    refine (law_small K A n c L _ (hA.below hbx0.below)).mono ?_
    rintro e w1 ⟨rfl, hb⟩
    rw [HD.out]
    replace bP := bP.below hb bP.lt
    have hbx1 := hbx0.more hb
    clear hbx0 hb
    go_wp2_with fail
    refine (law_known _).mono ?_
    rintro e w2 ⟨rfl, hb⟩
    go_wp2_with fail
    go_ret
    exact ⟨rfl, (hbx1.more hb).below⟩
end Go.Proofs.YtkjcmppaapbabaaDoor
