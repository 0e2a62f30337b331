/-
  The law CodeGroup returns true and leaves what was there. Condition: the argument reads as a code.
-/
import Derived.Test.YtkjcmppaapbabaaDoorJN
import Derived.Test.YtkjcmppaapbabaaDoorJL
import Derived.Test.YtkjcmppaapbabaaDoorJR
import Derived.Test.YtkjcmppaapbabaaDoorJT
import Derived.Test.YtkjcmppaapbabaaDoorKA
import Derived.Test.YtkjcmppaapbabaaDoorNY
namespace Go.Proofs.YtkjcmppaapbabaaDoor
open Go.RowKit
set_option maxRecDepth 100000 in
set_option maxHeartbeats 51200000 in
theorem codeGroup_any (K : Int) (A : Option Addr) (n c : Nat) (L : List Lt) (w : World) (hA : Lets w A n L) (hc : n ≤ c) :
    Calls Tryd.prog 14 #[.agg #[.int .i64 K, .slice A n c]] w fun e w' => e = .returned (.bool true) ∧ Below w.heap.size w w' := by
  have hLn := Lib.hid hA.len
  have hbx := Boxed.refl w K A n c
  by_cases h60 : n ≤ 60
  · have hd : decide (n ≤ 60) = true := by simpa using h60
    have HD := Lib.hid hd
    clear hd
    obtain ⟨E, hE⟩ : ∃ E, checkE K L = E := ⟨_, rfl⟩
    have HE := Lib.hid hE
    clear hE
    by_cases hz : E = 0
    · subst hz
      have HSM := Lib.hid (tame_of_check HE.out)
      go_enter Tryd.func14, Tryd.ntmps14
      go_wp2_with fail
      generalize w.alloc (.cells #[.int .i64 K, .slice A n c] 24) = X at hbx ⊢
      have hbx0 := hbx
      clear hbx
      refine (law_small K A n c L _ (hA.below hbx0.below)).mono ?_
      rintro e w1 ⟨rfl, hb⟩
      rw [HD.out]
      have hbx1 := hbx0.more hb
      clear hbx0 hb
      have c0 := hbx1.c0
      have c1 := hbx1.c1
      go_wp2_with fail
      refine (ref_Check K A n c L _ (hA.below hbx1.below)).mono ?_
      rintro e w2 ⟨rfl, hb⟩
      rw [HE.out]
      clear c0 c1
      have hbx2 := hbx1.more hb
      clear hbx1 hb
      have HC1 := Lib.hid (check_swap HE.out)
      have c0 := hbx2.c0
      have c1 := hbx2.c1
      go_wp2_with fail
      refine (code_swap K A n c L _ (hA.below hbx2.below) hc).mono ?_
      intro e u1 hg
      obtain ⟨A1, n1, r1, rfl, hL1, hb⟩ := givesCE_ok HE.out hg
      clear hg c0 c1
      have hbn := (hbx2.more hb).alloc (.cells #[.int .i64 K, .slice A1 n1 r1] 24)
      have hB1 := Blk.new u1 24 #[.int .i64 K, .slice A1 n1 r1]
      have hM1 := hL1.lets.alloc (.cells #[.int .i64 K, .slice A1 n1 r1] 24)
      have hc1 := hL1.row.cap
      go_upto_region 4 with fail
      generalize u1.alloc (.cells #[.int .i64 K, .slice A1 n1 r1] 24) = W1 at hbn hB1 hM1 ⊢
      have hbx3 := hbn
      clear hbn hbx2 hL1 hb
      have HC2 := Lib.hid (check_mirror HE.out)
      have c0 := hbx3.c0
      have c1 := hbx3.c1
      go_wp2_with fail
      refine (code_mirror K A n c L _ (hA.below hbx3.below) hc).mono ?_
      intro e u2 hg
      obtain ⟨A2, n2, r2, rfl, hL2, hb⟩ := givesCE_ok HE.out hg
      clear hg c0 c1
      replace hB1 := (hB1.below hb hB1.lt).alloc (.cells #[.int .i64 K, .slice A2 n2 r2] 24)
      replace hM1 := (hM1.below hb).alloc (.cells #[.int .i64 K, .slice A2 n2 r2] 24)
      have hbn := (hbx3.more hb).alloc (.cells #[.int .i64 K, .slice A2 n2 r2] 24)
      have hB2 := Blk.new u2 24 #[.int .i64 K, .slice A2 n2 r2]
      have hM2 := hL2.lets.alloc (.cells #[.int .i64 K, .slice A2 n2 r2] 24)
      have hc2 := hL2.row.cap
      go_upto_region 5 with fail
      generalize u2.alloc (.cells #[.int .i64 K, .slice A2 n2 r2] 24) = W2 at hB1 hM1 hbn hB2 hM2 ⊢
      have hbx4 := hbn
      clear hbn hbx3 hL2 hb
      have HC3 := Lib.hid (check_turn HE.out)
      have c0 := hbx4.c0
      have c1 := hbx4.c1
      go_wp2_with fail
      refine (code_turn K A n c L _ (hA.below hbx4.below) hc).mono ?_
      intro e u3 hg
      obtain ⟨A3, n3, r3, rfl, hL3, hb⟩ := givesCE_ok HE.out hg
      clear hg c0 c1
      replace hB1 := (hB1.below hb hB1.lt).alloc (.cells #[.int .i64 K, .slice A3 n3 r3] 24)
      replace hM1 := (hM1.below hb).alloc (.cells #[.int .i64 K, .slice A3 n3 r3] 24)
      replace hB2 := (hB2.below hb hB2.lt).alloc (.cells #[.int .i64 K, .slice A3 n3 r3] 24)
      replace hM2 := (hM2.below hb).alloc (.cells #[.int .i64 K, .slice A3 n3 r3] 24)
      have hbn := (hbx4.more hb).alloc (.cells #[.int .i64 K, .slice A3 n3 r3] 24)
      have hB3 := Blk.new u3 24 #[.int .i64 K, .slice A3 n3 r3]
      have hM3 := hL3.lets.alloc (.cells #[.int .i64 K, .slice A3 n3 r3] 24)
      have hc3 := hL3.row.cap
      go_upto_region 6 with fail
      generalize u3.alloc (.cells #[.int .i64 K, .slice A3 n3 r3] 24) = W3 at hB1 hM1 hB2 hM2 hbn hB3 hM3 ⊢
      have hbx5 := hbn
      clear hbn hbx4 hL3 hb
      have HC4 := Lib.hid (check_swap HC1.out)
      have c0 := ((hB1.cell 0).trans rfl : W3.cell? ⟨u1.heap.size, 0, none⟩ = some (.int .i64 K))
      have c1 := ((hB1.cell 1).trans rfl : W3.cell? ⟨u1.heap.size, 1, none⟩ = some (.slice A1 n1 r1))
      go_wp2_with fail
      refine (code_swap K A1 n1 r1 (swapL L) _ hM1 hc1).mono ?_
      intro e u4 hg
      obtain ⟨A4, n4, r4, rfl, hL4, hb⟩ := givesCE_ok HC1.out hg
      clear hg c0 c1
      replace hB1 := (hB1.below hb hB1.lt).alloc (.cells #[.int .i64 K, .slice A4 n4 r4] 24)
      replace hM1 := (hM1.below hb).alloc (.cells #[.int .i64 K, .slice A4 n4 r4] 24)
      replace hB2 := (hB2.below hb hB2.lt).alloc (.cells #[.int .i64 K, .slice A4 n4 r4] 24)
      replace hM2 := (hM2.below hb).alloc (.cells #[.int .i64 K, .slice A4 n4 r4] 24)
      replace hB3 := (hB3.below hb hB3.lt).alloc (.cells #[.int .i64 K, .slice A4 n4 r4] 24)
      replace hM3 := (hM3.below hb).alloc (.cells #[.int .i64 K, .slice A4 n4 r4] 24)
      have hbn := (hbx5.more hb).alloc (.cells #[.int .i64 K, .slice A4 n4 r4] 24)
      have hB4 := Blk.new u4 24 #[.int .i64 K, .slice A4 n4 r4]
      have hM4 := hL4.lets.alloc (.cells #[.int .i64 K, .slice A4 n4 r4] 24)
      have hc4 := hL4.row.cap
      go_upto_region 7 with fail
      generalize u4.alloc (.cells #[.int .i64 K, .slice A4 n4 r4] 24) = W4 at hB1 hM1 hB2 hM2 hB3 hM3 hbn hB4 hM4 ⊢
      have hbx6 := hbn
      clear hbn hbx5 hL4 hb
      have HC5 := Lib.hid (check_mirror HC2.out)
      have c0 := ((hB2.cell 0).trans rfl : W4.cell? ⟨u2.heap.size, 0, none⟩ = some (.int .i64 K))
      have c1 := ((hB2.cell 1).trans rfl : W4.cell? ⟨u2.heap.size, 1, none⟩ = some (.slice A2 n2 r2))
      go_wp2_with fail
      refine (code_mirror K A2 n2 r2 (mirrorL K L) _ hM2 hc2).mono ?_
      intro e u5 hg
      obtain ⟨A5, n5, r5, rfl, hL5, hb⟩ := givesCE_ok HC2.out hg
      clear hg c0 c1
      replace hB1 := (hB1.below hb hB1.lt).alloc (.cells #[.int .i64 K, .slice A5 n5 r5] 24)
      replace hM1 := (hM1.below hb).alloc (.cells #[.int .i64 K, .slice A5 n5 r5] 24)
      replace hB2 := (hB2.below hb hB2.lt).alloc (.cells #[.int .i64 K, .slice A5 n5 r5] 24)
      replace hM2 := (hM2.below hb).alloc (.cells #[.int .i64 K, .slice A5 n5 r5] 24)
      replace hB3 := (hB3.below hb hB3.lt).alloc (.cells #[.int .i64 K, .slice A5 n5 r5] 24)
      replace hM3 := (hM3.below hb).alloc (.cells #[.int .i64 K, .slice A5 n5 r5] 24)
      replace hB4 := (hB4.below hb hB4.lt).alloc (.cells #[.int .i64 K, .slice A5 n5 r5] 24)
      replace hM4 := (hM4.below hb).alloc (.cells #[.int .i64 K, .slice A5 n5 r5] 24)
      have hbn := (hbx6.more hb).alloc (.cells #[.int .i64 K, .slice A5 n5 r5] 24)
      have hB5 := Blk.new u5 24 #[.int .i64 K, .slice A5 n5 r5]
      have hM5 := hL5.lets.alloc (.cells #[.int .i64 K, .slice A5 n5 r5] 24)
      have hc5 := hL5.row.cap
      go_upto_region 8 with fail
      generalize u5.alloc (.cells #[.int .i64 K, .slice A5 n5 r5] 24) = W5 at hB1 hM1 hB2 hM2 hB3 hM3 hB4 hM4 hbn hB5 hM5 ⊢
      have hbx7 := hbn
      clear hbn hbx6 hL5 hb
      have HC6 := Lib.hid (check_turn HC3.out)
      have c0 := ((hB3.cell 0).trans rfl : W5.cell? ⟨u3.heap.size, 0, none⟩ = some (.int .i64 K))
      have c1 := ((hB3.cell 1).trans rfl : W5.cell? ⟨u3.heap.size, 1, none⟩ = some (.slice A3 n3 r3))
      go_wp2_with fail
      refine (code_turn K A3 n3 r3 (turnL L) _ hM3 hc3).mono ?_
      intro e u6 hg
      obtain ⟨A6, n6, r6, rfl, hL6, hb⟩ := givesCE_ok HC3.out hg
      clear hg c0 c1
      replace hB1 := (hB1.below hb hB1.lt).alloc (.cells #[.int .i64 K, .slice A6 n6 r6] 24)
      replace hM1 := (hM1.below hb).alloc (.cells #[.int .i64 K, .slice A6 n6 r6] 24)
      replace hB2 := (hB2.below hb hB2.lt).alloc (.cells #[.int .i64 K, .slice A6 n6 r6] 24)
      replace hM2 := (hM2.below hb).alloc (.cells #[.int .i64 K, .slice A6 n6 r6] 24)
      replace hB3 := (hB3.below hb hB3.lt).alloc (.cells #[.int .i64 K, .slice A6 n6 r6] 24)
      replace hM3 := (hM3.below hb).alloc (.cells #[.int .i64 K, .slice A6 n6 r6] 24)
      replace hB4 := (hB4.below hb hB4.lt).alloc (.cells #[.int .i64 K, .slice A6 n6 r6] 24)
      replace hM4 := (hM4.below hb).alloc (.cells #[.int .i64 K, .slice A6 n6 r6] 24)
      replace hB5 := (hB5.below hb hB5.lt).alloc (.cells #[.int .i64 K, .slice A6 n6 r6] 24)
      replace hM5 := (hM5.below hb).alloc (.cells #[.int .i64 K, .slice A6 n6 r6] 24)
      have hbn := (hbx7.more hb).alloc (.cells #[.int .i64 K, .slice A6 n6 r6] 24)
      have hB6 := Blk.new u6 24 #[.int .i64 K, .slice A6 n6 r6]
      have hM6 := hL6.lets.alloc (.cells #[.int .i64 K, .slice A6 n6 r6] 24)
      have hc6 := hL6.row.cap
      go_upto_region 9 with fail
      generalize u6.alloc (.cells #[.int .i64 K, .slice A6 n6 r6] 24) = W6 at hB1 hM1 hB2 hM2 hB3 hM3 hB4 hM4 hB5 hM5 hbn hB6 hM6 ⊢
      have hbx8 := hbn
      clear hbn hbx7 hL6 hb
      have HC7 := Lib.hid (check_mirror HC1.out)
      have c0 := ((hB1.cell 0).trans rfl : W6.cell? ⟨u1.heap.size, 0, none⟩ = some (.int .i64 K))
      have c1 := ((hB1.cell 1).trans rfl : W6.cell? ⟨u1.heap.size, 1, none⟩ = some (.slice A1 n1 r1))
      go_wp2_with fail
      refine (code_mirror K A1 n1 r1 (swapL L) _ hM1 hc1).mono ?_
      intro e u7 hg
      obtain ⟨A7, n7, r7, rfl, hL7, hb⟩ := givesCE_ok HC1.out hg
      clear hg c0 c1
      replace hB1 := (hB1.below hb hB1.lt).alloc (.cells #[.int .i64 K, .slice A7 n7 r7] 24)
      replace hM1 := (hM1.below hb).alloc (.cells #[.int .i64 K, .slice A7 n7 r7] 24)
      replace hB2 := (hB2.below hb hB2.lt).alloc (.cells #[.int .i64 K, .slice A7 n7 r7] 24)
      replace hM2 := (hM2.below hb).alloc (.cells #[.int .i64 K, .slice A7 n7 r7] 24)
      replace hB3 := (hB3.below hb hB3.lt).alloc (.cells #[.int .i64 K, .slice A7 n7 r7] 24)
      replace hM3 := (hM3.below hb).alloc (.cells #[.int .i64 K, .slice A7 n7 r7] 24)
      replace hB4 := (hB4.below hb hB4.lt).alloc (.cells #[.int .i64 K, .slice A7 n7 r7] 24)
      replace hM4 := (hM4.below hb).alloc (.cells #[.int .i64 K, .slice A7 n7 r7] 24)
      replace hB5 := (hB5.below hb hB5.lt).alloc (.cells #[.int .i64 K, .slice A7 n7 r7] 24)
      replace hM5 := (hM5.below hb).alloc (.cells #[.int .i64 K, .slice A7 n7 r7] 24)
      replace hB6 := (hB6.below hb hB6.lt).alloc (.cells #[.int .i64 K, .slice A7 n7 r7] 24)
      replace hM6 := (hM6.below hb).alloc (.cells #[.int .i64 K, .slice A7 n7 r7] 24)
      have hbn := (hbx8.more hb).alloc (.cells #[.int .i64 K, .slice A7 n7 r7] 24)
      have hB7 := Blk.new u7 24 #[.int .i64 K, .slice A7 n7 r7]
      have hM7 := hL7.lets.alloc (.cells #[.int .i64 K, .slice A7 n7 r7] 24)
      have hc7 := hL7.row.cap
      go_upto_region 10 with fail
      generalize u7.alloc (.cells #[.int .i64 K, .slice A7 n7 r7] 24) = W7 at hB1 hM1 hB2 hM2 hB3 hM3 hB4 hM4 hB5 hM5 hB6 hM6 hbn hB7 hM7 ⊢
      have hbx9 := hbn
      clear hbn hbx8 hL7 hb
      have HC8 := Lib.hid (check_swap HC2.out)
      have c0 := ((hB2.cell 0).trans rfl : W7.cell? ⟨u2.heap.size, 0, none⟩ = some (.int .i64 K))
      have c1 := ((hB2.cell 1).trans rfl : W7.cell? ⟨u2.heap.size, 1, none⟩ = some (.slice A2 n2 r2))
      go_wp2_with fail
      refine (code_swap K A2 n2 r2 (mirrorL K L) _ hM2 hc2).mono ?_
      intro e u8 hg
      obtain ⟨A8, n8, r8, rfl, hL8, hb⟩ := givesCE_ok HC2.out hg
      clear hg c0 c1
      replace hB1 := (hB1.below hb hB1.lt).alloc (.cells #[.int .i64 K, .slice A8 n8 r8] 24)
      replace hM1 := (hM1.below hb).alloc (.cells #[.int .i64 K, .slice A8 n8 r8] 24)
      replace hB2 := (hB2.below hb hB2.lt).alloc (.cells #[.int .i64 K, .slice A8 n8 r8] 24)
      replace hM2 := (hM2.below hb).alloc (.cells #[.int .i64 K, .slice A8 n8 r8] 24)
      replace hB3 := (hB3.below hb hB3.lt).alloc (.cells #[.int .i64 K, .slice A8 n8 r8] 24)
      replace hM3 := (hM3.below hb).alloc (.cells #[.int .i64 K, .slice A8 n8 r8] 24)
      replace hB4 := (hB4.below hb hB4.lt).alloc (.cells #[.int .i64 K, .slice A8 n8 r8] 24)
      replace hM4 := (hM4.below hb).alloc (.cells #[.int .i64 K, .slice A8 n8 r8] 24)
      replace hB5 := (hB5.below hb hB5.lt).alloc (.cells #[.int .i64 K, .slice A8 n8 r8] 24)
      replace hM5 := (hM5.below hb).alloc (.cells #[.int .i64 K, .slice A8 n8 r8] 24)
      replace hB6 := (hB6.below hb hB6.lt).alloc (.cells #[.int .i64 K, .slice A8 n8 r8] 24)
      replace hM6 := (hM6.below hb).alloc (.cells #[.int .i64 K, .slice A8 n8 r8] 24)
      replace hB7 := (hB7.below hb hB7.lt).alloc (.cells #[.int .i64 K, .slice A8 n8 r8] 24)
      replace hM7 := (hM7.below hb).alloc (.cells #[.int .i64 K, .slice A8 n8 r8] 24)
      have hbn := (hbx9.more hb).alloc (.cells #[.int .i64 K, .slice A8 n8 r8] 24)
      have hB8 := Blk.new u8 24 #[.int .i64 K, .slice A8 n8 r8]
      have hM8 := hL8.lets.alloc (.cells #[.int .i64 K, .slice A8 n8 r8] 24)
      have hc8 := hL8.row.cap
      go_upto_region 11 with fail
      generalize u8.alloc (.cells #[.int .i64 K, .slice A8 n8 r8] 24) = W8 at hB1 hM1 hB2 hM2 hB3 hM3 hB4 hM4 hB5 hM5 hB6 hM6 hB7 hM7 hbn hB8 hM8 ⊢
      have hbx10 := hbn
      clear hbn hbx9 hL8 hb
      have HC9 := Lib.hid (check_turn HC1.out)
      have c0 := ((hB1.cell 0).trans rfl : W8.cell? ⟨u1.heap.size, 0, none⟩ = some (.int .i64 K))
      have c1 := ((hB1.cell 1).trans rfl : W8.cell? ⟨u1.heap.size, 1, none⟩ = some (.slice A1 n1 r1))
      go_wp2_with fail
      refine (code_turn K A1 n1 r1 (swapL L) _ hM1 hc1).mono ?_
      intro e u9 hg
      obtain ⟨A9, n9, r9, rfl, hL9, hb⟩ := givesCE_ok HC1.out hg
      clear hg c0 c1
      replace hB1 := (hB1.below hb hB1.lt).alloc (.cells #[.int .i64 K, .slice A9 n9 r9] 24)
      replace hM1 := (hM1.below hb).alloc (.cells #[.int .i64 K, .slice A9 n9 r9] 24)
      replace hB2 := (hB2.below hb hB2.lt).alloc (.cells #[.int .i64 K, .slice A9 n9 r9] 24)
      replace hM2 := (hM2.below hb).alloc (.cells #[.int .i64 K, .slice A9 n9 r9] 24)
      replace hB3 := (hB3.below hb hB3.lt).alloc (.cells #[.int .i64 K, .slice A9 n9 r9] 24)
      replace hM3 := (hM3.below hb).alloc (.cells #[.int .i64 K, .slice A9 n9 r9] 24)
      replace hB4 := (hB4.below hb hB4.lt).alloc (.cells #[.int .i64 K, .slice A9 n9 r9] 24)
      replace hM4 := (hM4.below hb).alloc (.cells #[.int .i64 K, .slice A9 n9 r9] 24)
      replace hB5 := (hB5.below hb hB5.lt).alloc (.cells #[.int .i64 K, .slice A9 n9 r9] 24)
      replace hM5 := (hM5.below hb).alloc (.cells #[.int .i64 K, .slice A9 n9 r9] 24)
      replace hB6 := (hB6.below hb hB6.lt).alloc (.cells #[.int .i64 K, .slice A9 n9 r9] 24)
      replace hM6 := (hM6.below hb).alloc (.cells #[.int .i64 K, .slice A9 n9 r9] 24)
      replace hB7 := (hB7.below hb hB7.lt).alloc (.cells #[.int .i64 K, .slice A9 n9 r9] 24)
      replace hM7 := (hM7.below hb).alloc (.cells #[.int .i64 K, .slice A9 n9 r9] 24)
      replace hB8 := (hB8.below hb hB8.lt).alloc (.cells #[.int .i64 K, .slice A9 n9 r9] 24)
      replace hM8 := (hM8.below hb).alloc (.cells #[.int .i64 K, .slice A9 n9 r9] 24)
      have hbn := (hbx10.more hb).alloc (.cells #[.int .i64 K, .slice A9 n9 r9] 24)
      have hB9 := Blk.new u9 24 #[.int .i64 K, .slice A9 n9 r9]
      have hM9 := hL9.lets.alloc (.cells #[.int .i64 K, .slice A9 n9 r9] 24)
      have hc9 := hL9.row.cap
      go_upto_region 12 with fail
      generalize u9.alloc (.cells #[.int .i64 K, .slice A9 n9 r9] 24) = W9 at hB1 hM1 hB2 hM2 hB3 hM3 hB4 hM4 hB5 hM5 hB6 hM6 hB7 hM7 hB8 hM8 hbn hB9 hM9 ⊢
      have hbx11 := hbn
      clear hbn hbx10 hL9 hb
      have HC10 := Lib.hid (check_swap HC3.out)
      have c0 := ((hB3.cell 0).trans rfl : W9.cell? ⟨u3.heap.size, 0, none⟩ = some (.int .i64 K))
      have c1 := ((hB3.cell 1).trans rfl : W9.cell? ⟨u3.heap.size, 1, none⟩ = some (.slice A3 n3 r3))
      go_wp2_with fail
      refine (code_swap K A3 n3 r3 (turnL L) _ hM3 hc3).mono ?_
      intro e u10 hg
      obtain ⟨A10, n10, r10, rfl, hL10, hb⟩ := givesCE_ok HC3.out hg
      clear hg c0 c1
      replace hB1 := (hB1.below hb hB1.lt).alloc (.cells #[.int .i64 K, .slice A10 n10 r10] 24)
      replace hM1 := (hM1.below hb).alloc (.cells #[.int .i64 K, .slice A10 n10 r10] 24)
      replace hB2 := (hB2.below hb hB2.lt).alloc (.cells #[.int .i64 K, .slice A10 n10 r10] 24)
      replace hM2 := (hM2.below hb).alloc (.cells #[.int .i64 K, .slice A10 n10 r10] 24)
      replace hB3 := (hB3.below hb hB3.lt).alloc (.cells #[.int .i64 K, .slice A10 n10 r10] 24)
      replace hM3 := (hM3.below hb).alloc (.cells #[.int .i64 K, .slice A10 n10 r10] 24)
      replace hB4 := (hB4.below hb hB4.lt).alloc (.cells #[.int .i64 K, .slice A10 n10 r10] 24)
      replace hM4 := (hM4.below hb).alloc (.cells #[.int .i64 K, .slice A10 n10 r10] 24)
      replace hB5 := (hB5.below hb hB5.lt).alloc (.cells #[.int .i64 K, .slice A10 n10 r10] 24)
      replace hM5 := (hM5.below hb).alloc (.cells #[.int .i64 K, .slice A10 n10 r10] 24)
      replace hB6 := (hB6.below hb hB6.lt).alloc (.cells #[.int .i64 K, .slice A10 n10 r10] 24)
      replace hM6 := (hM6.below hb).alloc (.cells #[.int .i64 K, .slice A10 n10 r10] 24)
      replace hB7 := (hB7.below hb hB7.lt).alloc (.cells #[.int .i64 K, .slice A10 n10 r10] 24)
      replace hM7 := (hM7.below hb).alloc (.cells #[.int .i64 K, .slice A10 n10 r10] 24)
      replace hB8 := (hB8.below hb hB8.lt).alloc (.cells #[.int .i64 K, .slice A10 n10 r10] 24)
      replace hM8 := (hM8.below hb).alloc (.cells #[.int .i64 K, .slice A10 n10 r10] 24)
      replace hB9 := (hB9.below hb hB9.lt).alloc (.cells #[.int .i64 K, .slice A10 n10 r10] 24)
      replace hM9 := (hM9.below hb).alloc (.cells #[.int .i64 K, .slice A10 n10 r10] 24)
      have hbn := (hbx11.more hb).alloc (.cells #[.int .i64 K, .slice A10 n10 r10] 24)
      have hB10 := Blk.new u10 24 #[.int .i64 K, .slice A10 n10 r10]
      have hM10 := hL10.lets.alloc (.cells #[.int .i64 K, .slice A10 n10 r10] 24)
      have hc10 := hL10.row.cap
      go_upto_region 13 with fail
      generalize u10.alloc (.cells #[.int .i64 K, .slice A10 n10 r10] 24) = W10 at hB1 hM1 hB2 hM2 hB3 hM3 hB4 hM4 hB5 hM5 hB6 hM6 hB7 hM7 hB8 hM8 hB9 hM9 hbn hB10 hM10 ⊢
      have hbx12 := hbn
      clear hbn hbx11 hL10 hb
      have HC11 := Lib.hid (check_turn HC2.out)
      have c0 := ((hB2.cell 0).trans rfl : W10.cell? ⟨u2.heap.size, 0, none⟩ = some (.int .i64 K))
      have c1 := ((hB2.cell 1).trans rfl : W10.cell? ⟨u2.heap.size, 1, none⟩ = some (.slice A2 n2 r2))
      go_wp2_with fail
      refine (code_turn K A2 n2 r2 (mirrorL K L) _ hM2 hc2).mono ?_
      intro e u11 hg
      obtain ⟨A11, n11, r11, rfl, hL11, hb⟩ := givesCE_ok HC2.out hg
      clear hg c0 c1
      replace hB1 := (hB1.below hb hB1.lt).alloc (.cells #[.int .i64 K, .slice A11 n11 r11] 24)
      replace hM1 := (hM1.below hb).alloc (.cells #[.int .i64 K, .slice A11 n11 r11] 24)
      replace hB2 := (hB2.below hb hB2.lt).alloc (.cells #[.int .i64 K, .slice A11 n11 r11] 24)
      replace hM2 := (hM2.below hb).alloc (.cells #[.int .i64 K, .slice A11 n11 r11] 24)
      replace hB3 := (hB3.below hb hB3.lt).alloc (.cells #[.int .i64 K, .slice A11 n11 r11] 24)
      replace hM3 := (hM3.below hb).alloc (.cells #[.int .i64 K, .slice A11 n11 r11] 24)
      replace hB4 := (hB4.below hb hB4.lt).alloc (.cells #[.int .i64 K, .slice A11 n11 r11] 24)
      replace hM4 := (hM4.below hb).alloc (.cells #[.int .i64 K, .slice A11 n11 r11] 24)
      replace hB5 := (hB5.below hb hB5.lt).alloc (.cells #[.int .i64 K, .slice A11 n11 r11] 24)
      replace hM5 := (hM5.below hb).alloc (.cells #[.int .i64 K, .slice A11 n11 r11] 24)
      replace hB6 := (hB6.below hb hB6.lt).alloc (.cells #[.int .i64 K, .slice A11 n11 r11] 24)
      replace hM6 := (hM6.below hb).alloc (.cells #[.int .i64 K, .slice A11 n11 r11] 24)
      replace hB7 := (hB7.below hb hB7.lt).alloc (.cells #[.int .i64 K, .slice A11 n11 r11] 24)
      replace hM7 := (hM7.below hb).alloc (.cells #[.int .i64 K, .slice A11 n11 r11] 24)
      replace hB8 := (hB8.below hb hB8.lt).alloc (.cells #[.int .i64 K, .slice A11 n11 r11] 24)
      replace hM8 := (hM8.below hb).alloc (.cells #[.int .i64 K, .slice A11 n11 r11] 24)
      replace hB9 := (hB9.below hb hB9.lt).alloc (.cells #[.int .i64 K, .slice A11 n11 r11] 24)
      replace hM9 := (hM9.below hb).alloc (.cells #[.int .i64 K, .slice A11 n11 r11] 24)
      replace hB10 := (hB10.below hb hB10.lt).alloc (.cells #[.int .i64 K, .slice A11 n11 r11] 24)
      replace hM10 := (hM10.below hb).alloc (.cells #[.int .i64 K, .slice A11 n11 r11] 24)
      have hbn := (hbx12.more hb).alloc (.cells #[.int .i64 K, .slice A11 n11 r11] 24)
      have hB11 := Blk.new u11 24 #[.int .i64 K, .slice A11 n11 r11]
      have hM11 := hL11.lets.alloc (.cells #[.int .i64 K, .slice A11 n11 r11] 24)
      have hc11 := hL11.row.cap
      go_upto_region 14 with fail
      generalize u11.alloc (.cells #[.int .i64 K, .slice A11 n11 r11] 24) = W11 at hB1 hM1 hB2 hM2 hB3 hM3 hB4 hM4 hB5 hM5 hB6 hM6 hB7 hM7 hB8 hM8 hB9 hM9 hB10 hM10 hbn hB11 hM11 ⊢
      have hbx13 := hbn
      clear hbn hbx12 hL11 hb
      have HC12 := Lib.hid (check_mirror HC3.out)
      have c0 := ((hB3.cell 0).trans rfl : W11.cell? ⟨u3.heap.size, 0, none⟩ = some (.int .i64 K))
      have c1 := ((hB3.cell 1).trans rfl : W11.cell? ⟨u3.heap.size, 1, none⟩ = some (.slice A3 n3 r3))
      go_wp2_with fail
      refine (code_mirror K A3 n3 r3 (turnL L) _ hM3 hc3).mono ?_
      intro e u12 hg
      obtain ⟨A12, n12, r12, rfl, hL12, hb⟩ := givesCE_ok HC3.out hg
      clear hg c0 c1
      replace hB1 := (hB1.below hb hB1.lt).alloc (.cells #[.int .i64 K, .slice A12 n12 r12] 24)
      replace hM1 := (hM1.below hb).alloc (.cells #[.int .i64 K, .slice A12 n12 r12] 24)
      replace hB2 := (hB2.below hb hB2.lt).alloc (.cells #[.int .i64 K, .slice A12 n12 r12] 24)
      replace hM2 := (hM2.below hb).alloc (.cells #[.int .i64 K, .slice A12 n12 r12] 24)
      replace hB3 := (hB3.below hb hB3.lt).alloc (.cells #[.int .i64 K, .slice A12 n12 r12] 24)
      replace hM3 := (hM3.below hb).alloc (.cells #[.int .i64 K, .slice A12 n12 r12] 24)
      replace hB4 := (hB4.below hb hB4.lt).alloc (.cells #[.int .i64 K, .slice A12 n12 r12] 24)
      replace hM4 := (hM4.below hb).alloc (.cells #[.int .i64 K, .slice A12 n12 r12] 24)
      replace hB5 := (hB5.below hb hB5.lt).alloc (.cells #[.int .i64 K, .slice A12 n12 r12] 24)
      replace hM5 := (hM5.below hb).alloc (.cells #[.int .i64 K, .slice A12 n12 r12] 24)
      replace hB6 := (hB6.below hb hB6.lt).alloc (.cells #[.int .i64 K, .slice A12 n12 r12] 24)
      replace hM6 := (hM6.below hb).alloc (.cells #[.int .i64 K, .slice A12 n12 r12] 24)
      replace hB7 := (hB7.below hb hB7.lt).alloc (.cells #[.int .i64 K, .slice A12 n12 r12] 24)
      replace hM7 := (hM7.below hb).alloc (.cells #[.int .i64 K, .slice A12 n12 r12] 24)
      replace hB8 := (hB8.below hb hB8.lt).alloc (.cells #[.int .i64 K, .slice A12 n12 r12] 24)
      replace hM8 := (hM8.below hb).alloc (.cells #[.int .i64 K, .slice A12 n12 r12] 24)
      replace hB9 := (hB9.below hb hB9.lt).alloc (.cells #[.int .i64 K, .slice A12 n12 r12] 24)
      replace hM9 := (hM9.below hb).alloc (.cells #[.int .i64 K, .slice A12 n12 r12] 24)
      replace hB10 := (hB10.below hb hB10.lt).alloc (.cells #[.int .i64 K, .slice A12 n12 r12] 24)
      replace hM10 := (hM10.below hb).alloc (.cells #[.int .i64 K, .slice A12 n12 r12] 24)
      replace hB11 := (hB11.below hb hB11.lt).alloc (.cells #[.int .i64 K, .slice A12 n12 r12] 24)
      replace hM11 := (hM11.below hb).alloc (.cells #[.int .i64 K, .slice A12 n12 r12] 24)
      have hbn := (hbx13.more hb).alloc (.cells #[.int .i64 K, .slice A12 n12 r12] 24)
      have hB12 := Blk.new u12 24 #[.int .i64 K, .slice A12 n12 r12]
      have hM12 := hL12.lets.alloc (.cells #[.int .i64 K, .slice A12 n12 r12] 24)
      have hc12 := hL12.row.cap
      go_upto_region 15 with fail
      generalize u12.alloc (.cells #[.int .i64 K, .slice A12 n12 r12] 24) = W12 at hB1 hM1 hB2 hM2 hB3 hM3 hB4 hM4 hB5 hM5 hB6 hM6 hB7 hM7 hB8 hM8 hB9 hM9 hB10 hM10 hB11 hM11 hbn hB12 hM12 ⊢
      have hbx14 := hbn
      clear hbn hbx13 hL12 hb
      have HC13 := Lib.hid (check_norm HE.out)
      have c0 := ((hB1.cell 0).trans rfl : W12.cell? ⟨u1.heap.size, 0, none⟩ = some (.int .i64 K))
      have c1 := ((hB1.cell 1).trans rfl : W12.cell? ⟨u1.heap.size, 1, none⟩ = some (.slice A1 n1 r1))
      go_wp2_with fail
      clear c0 c1
      refine (code_Check K A1 n1 r1 ((swapL L)) _ hM1).mono ?_
      rintro e v1 ⟨rfl, hb⟩
      rw [HC1.out]
      replace hB1 := hB1.below hb hB1.lt
      replace hM1 := hM1.below hb
      replace hB2 := hB2.below hb hB2.lt
      replace hM2 := hM2.below hb
      replace hB3 := hB3.below hb hB3.lt
      replace hM3 := hM3.below hb
      replace hB4 := hB4.below hb hB4.lt
      replace hM4 := hM4.below hb
      replace hB5 := hB5.below hb hB5.lt
      replace hM5 := hM5.below hb
      replace hB6 := hB6.below hb hB6.lt
      replace hM6 := hM6.below hb
      replace hB7 := hB7.below hb hB7.lt
      replace hM7 := hM7.below hb
      replace hB8 := hB8.below hb hB8.lt
      replace hM8 := hM8.below hb
      replace hB9 := hB9.below hb hB9.lt
      replace hM9 := hM9.below hb
      replace hB10 := hB10.below hb hB10.lt
      replace hM10 := hM10.below hb
      replace hB11 := hB11.below hb hB11.lt
      replace hM11 := hM11.below hb
      replace hB12 := hB12.below hb hB12.lt
      replace hM12 := hM12.below hb
      have hbx15 := hbx14.more hb
      clear hbx14 hb
      have c0 := ((hB2.cell 0).trans rfl : v1.cell? ⟨u2.heap.size, 0, none⟩ = some (.int .i64 K))
      have c1 := ((hB2.cell 1).trans rfl : v1.cell? ⟨u2.heap.size, 1, none⟩ = some (.slice A2 n2 r2))
      go_wp2_with fail
      clear c0 c1
      refine (code_Check K A2 n2 r2 ((mirrorL K L)) _ hM2).mono ?_
      rintro e v2 ⟨rfl, hb⟩
      rw [HC2.out]
      replace hB1 := hB1.below hb hB1.lt
      replace hM1 := hM1.below hb
      replace hB2 := hB2.below hb hB2.lt
      replace hM2 := hM2.below hb
      replace hB3 := hB3.below hb hB3.lt
      replace hM3 := hM3.below hb
      replace hB4 := hB4.below hb hB4.lt
      replace hM4 := hM4.below hb
      replace hB5 := hB5.below hb hB5.lt
      replace hM5 := hM5.below hb
      replace hB6 := hB6.below hb hB6.lt
      replace hM6 := hM6.below hb
      replace hB7 := hB7.below hb hB7.lt
      replace hM7 := hM7.below hb
      replace hB8 := hB8.below hb hB8.lt
      replace hM8 := hM8.below hb
      replace hB9 := hB9.below hb hB9.lt
      replace hM9 := hM9.below hb
      replace hB10 := hB10.below hb hB10.lt
      replace hM10 := hM10.below hb
      replace hB11 := hB11.below hb hB11.lt
      replace hM11 := hM11.below hb
      replace hB12 := hB12.below hb hB12.lt
      replace hM12 := hM12.below hb
      have hbx16 := hbx15.more hb
      clear hbx15 hb
      have c0 := ((hB3.cell 0).trans rfl : v2.cell? ⟨u3.heap.size, 0, none⟩ = some (.int .i64 K))
      have c1 := ((hB3.cell 1).trans rfl : v2.cell? ⟨u3.heap.size, 1, none⟩ = some (.slice A3 n3 r3))
      go_wp2_with fail
      clear c0 c1
      refine (code_Check K A3 n3 r3 ((turnL L)) _ hM3).mono ?_
      rintro e v3 ⟨rfl, hb⟩
      rw [HC3.out]
      replace hB1 := hB1.below hb hB1.lt
      replace hM1 := hM1.below hb
      replace hB2 := hB2.below hb hB2.lt
      replace hM2 := hM2.below hb
      replace hB3 := hB3.below hb hB3.lt
      replace hM3 := hM3.below hb
      replace hB4 := hB4.below hb hB4.lt
      replace hM4 := hM4.below hb
      replace hB5 := hB5.below hb hB5.lt
      replace hM5 := hM5.below hb
      replace hB6 := hB6.below hb hB6.lt
      replace hM6 := hM6.below hb
      replace hB7 := hB7.below hb hB7.lt
      replace hM7 := hM7.below hb
      replace hB8 := hB8.below hb hB8.lt
      replace hM8 := hM8.below hb
      replace hB9 := hB9.below hb hB9.lt
      replace hM9 := hM9.below hb
      replace hB10 := hB10.below hb hB10.lt
      replace hM10 := hM10.below hb
      replace hB11 := hB11.below hb hB11.lt
      replace hM11 := hM11.below hb
      replace hB12 := hB12.below hb hB12.lt
      replace hM12 := hM12.below hb
      have hbx17 := hbx16.more hb
      clear hbx16 hb
      have c0 := hbx17.c0
      have c1 := hbx17.c1
      go_wp2_with fail
      refine (code_Normal K A n c L _ (hA.below hbx17.below) hc).mono ?_
      intro e u13 hg
      obtain ⟨A13, n13, r13, rfl, hL13, hb⟩ := givesCE_ok HE.out hg
      clear hg c0 c1
      replace hB1 := (hB1.below hb hB1.lt).alloc (.cells #[.int .i64 K, .slice A13 n13 r13] 24)
      replace hM1 := (hM1.below hb).alloc (.cells #[.int .i64 K, .slice A13 n13 r13] 24)
      replace hB2 := (hB2.below hb hB2.lt).alloc (.cells #[.int .i64 K, .slice A13 n13 r13] 24)
      replace hM2 := (hM2.below hb).alloc (.cells #[.int .i64 K, .slice A13 n13 r13] 24)
      replace hB3 := (hB3.below hb hB3.lt).alloc (.cells #[.int .i64 K, .slice A13 n13 r13] 24)
      replace hM3 := (hM3.below hb).alloc (.cells #[.int .i64 K, .slice A13 n13 r13] 24)
      replace hB4 := (hB4.below hb hB4.lt).alloc (.cells #[.int .i64 K, .slice A13 n13 r13] 24)
      replace hM4 := (hM4.below hb).alloc (.cells #[.int .i64 K, .slice A13 n13 r13] 24)
      replace hB5 := (hB5.below hb hB5.lt).alloc (.cells #[.int .i64 K, .slice A13 n13 r13] 24)
      replace hM5 := (hM5.below hb).alloc (.cells #[.int .i64 K, .slice A13 n13 r13] 24)
      replace hB6 := (hB6.below hb hB6.lt).alloc (.cells #[.int .i64 K, .slice A13 n13 r13] 24)
      replace hM6 := (hM6.below hb).alloc (.cells #[.int .i64 K, .slice A13 n13 r13] 24)
      replace hB7 := (hB7.below hb hB7.lt).alloc (.cells #[.int .i64 K, .slice A13 n13 r13] 24)
      replace hM7 := (hM7.below hb).alloc (.cells #[.int .i64 K, .slice A13 n13 r13] 24)
      replace hB8 := (hB8.below hb hB8.lt).alloc (.cells #[.int .i64 K, .slice A13 n13 r13] 24)
      replace hM8 := (hM8.below hb).alloc (.cells #[.int .i64 K, .slice A13 n13 r13] 24)
      replace hB9 := (hB9.below hb hB9.lt).alloc (.cells #[.int .i64 K, .slice A13 n13 r13] 24)
      replace hM9 := (hM9.below hb).alloc (.cells #[.int .i64 K, .slice A13 n13 r13] 24)
      replace hB10 := (hB10.below hb hB10.lt).alloc (.cells #[.int .i64 K, .slice A13 n13 r13] 24)
      replace hM10 := (hM10.below hb).alloc (.cells #[.int .i64 K, .slice A13 n13 r13] 24)
      replace hB11 := (hB11.below hb hB11.lt).alloc (.cells #[.int .i64 K, .slice A13 n13 r13] 24)
      replace hM11 := (hM11.below hb).alloc (.cells #[.int .i64 K, .slice A13 n13 r13] 24)
      replace hB12 := (hB12.below hb hB12.lt).alloc (.cells #[.int .i64 K, .slice A13 n13 r13] 24)
      replace hM12 := (hM12.below hb).alloc (.cells #[.int .i64 K, .slice A13 n13 r13] 24)
      have hbn := (hbx17.more hb).alloc (.cells #[.int .i64 K, .slice A13 n13 r13] 24)
      have hB13 := Blk.new u13 24 #[.int .i64 K, .slice A13 n13 r13]
      have hM13 := hL13.lets.alloc (.cells #[.int .i64 K, .slice A13 n13 r13] 24)
      have hc13 := hL13.row.cap
      go_upto_region 18 with fail
      generalize u13.alloc (.cells #[.int .i64 K, .slice A13 n13 r13] 24) = W13 at hB1 hM1 hB2 hM2 hB3 hM3 hB4 hM4 hB5 hM5 hB6 hM6 hB7 hM7 hB8 hM8 hB9 hM9 hB10 hM10 hB11 hM11 hB12 hM12 hbn hB13 hM13 ⊢
      have hbx18 := hbn
      clear hbn hbx17 hL13 hb
      have HC14 := Lib.hid (check_swap HC13.out)
      have c0 := ((hB13.cell 0).trans rfl : W13.cell? ⟨u13.heap.size, 0, none⟩ = some (.int .i64 K))
      have c1 := ((hB13.cell 1).trans rfl : W13.cell? ⟨u13.heap.size, 1, none⟩ = some (.slice A13 n13 r13))
      go_wp2_with fail
      refine (code_swap K A13 n13 r13 (normL L) _ hM13 hc13).mono ?_
      intro e u14 hg
      obtain ⟨A14, n14, r14, rfl, hL14, hb⟩ := givesCE_ok HC13.out hg
      clear hg c0 c1
      replace hB1 := (hB1.below hb hB1.lt).alloc (.cells #[.int .i64 K, .slice A14 n14 r14] 24)
      replace hM1 := (hM1.below hb).alloc (.cells #[.int .i64 K, .slice A14 n14 r14] 24)
      replace hB2 := (hB2.below hb hB2.lt).alloc (.cells #[.int .i64 K, .slice A14 n14 r14] 24)
      replace hM2 := (hM2.below hb).alloc (.cells #[.int .i64 K, .slice A14 n14 r14] 24)
      replace hB3 := (hB3.below hb hB3.lt).alloc (.cells #[.int .i64 K, .slice A14 n14 r14] 24)
      replace hM3 := (hM3.below hb).alloc (.cells #[.int .i64 K, .slice A14 n14 r14] 24)
      replace hB4 := (hB4.below hb hB4.lt).alloc (.cells #[.int .i64 K, .slice A14 n14 r14] 24)
      replace hM4 := (hM4.below hb).alloc (.cells #[.int .i64 K, .slice A14 n14 r14] 24)
      replace hB5 := (hB5.below hb hB5.lt).alloc (.cells #[.int .i64 K, .slice A14 n14 r14] 24)
      replace hM5 := (hM5.below hb).alloc (.cells #[.int .i64 K, .slice A14 n14 r14] 24)
      replace hB6 := (hB6.below hb hB6.lt).alloc (.cells #[.int .i64 K, .slice A14 n14 r14] 24)
      replace hM6 := (hM6.below hb).alloc (.cells #[.int .i64 K, .slice A14 n14 r14] 24)
      replace hB7 := (hB7.below hb hB7.lt).alloc (.cells #[.int .i64 K, .slice A14 n14 r14] 24)
      replace hM7 := (hM7.below hb).alloc (.cells #[.int .i64 K, .slice A14 n14 r14] 24)
      replace hB8 := (hB8.below hb hB8.lt).alloc (.cells #[.int .i64 K, .slice A14 n14 r14] 24)
      replace hM8 := (hM8.below hb).alloc (.cells #[.int .i64 K, .slice A14 n14 r14] 24)
      replace hB9 := (hB9.below hb hB9.lt).alloc (.cells #[.int .i64 K, .slice A14 n14 r14] 24)
      replace hM9 := (hM9.below hb).alloc (.cells #[.int .i64 K, .slice A14 n14 r14] 24)
      replace hB10 := (hB10.below hb hB10.lt).alloc (.cells #[.int .i64 K, .slice A14 n14 r14] 24)
      replace hM10 := (hM10.below hb).alloc (.cells #[.int .i64 K, .slice A14 n14 r14] 24)
      replace hB11 := (hB11.below hb hB11.lt).alloc (.cells #[.int .i64 K, .slice A14 n14 r14] 24)
      replace hM11 := (hM11.below hb).alloc (.cells #[.int .i64 K, .slice A14 n14 r14] 24)
      replace hB12 := (hB12.below hb hB12.lt).alloc (.cells #[.int .i64 K, .slice A14 n14 r14] 24)
      replace hM12 := (hM12.below hb).alloc (.cells #[.int .i64 K, .slice A14 n14 r14] 24)
      replace hB13 := (hB13.below hb hB13.lt).alloc (.cells #[.int .i64 K, .slice A14 n14 r14] 24)
      replace hM13 := (hM13.below hb).alloc (.cells #[.int .i64 K, .slice A14 n14 r14] 24)
      have hbn := (hbx18.more hb).alloc (.cells #[.int .i64 K, .slice A14 n14 r14] 24)
      have hB14 := Blk.new u14 24 #[.int .i64 K, .slice A14 n14 r14]
      have hM14 := hL14.lets.alloc (.cells #[.int .i64 K, .slice A14 n14 r14] 24)
      have hc14 := hL14.row.cap
      go_upto_region 19 with fail
      generalize u14.alloc (.cells #[.int .i64 K, .slice A14 n14 r14] 24) = W14 at hB1 hM1 hB2 hM2 hB3 hM3 hB4 hM4 hB5 hM5 hB6 hM6 hB7 hM7 hB8 hM8 hB9 hM9 hB10 hM10 hB11 hM11 hB12 hM12 hB13 hM13 hbn hB14 hM14 ⊢
      have hbx19 := hbn
      clear hbn hbx18 hL14 hb
      have HC15 := Lib.hid (check_mirror HC13.out)
      have c0 := ((hB13.cell 0).trans rfl : W14.cell? ⟨u13.heap.size, 0, none⟩ = some (.int .i64 K))
      have c1 := ((hB13.cell 1).trans rfl : W14.cell? ⟨u13.heap.size, 1, none⟩ = some (.slice A13 n13 r13))
      go_wp2_with fail
      refine (code_mirror K A13 n13 r13 (normL L) _ hM13 hc13).mono ?_
      intro e u15 hg
      obtain ⟨A15, n15, r15, rfl, hL15, hb⟩ := givesCE_ok HC13.out hg
      clear hg c0 c1
      replace hB1 := (hB1.below hb hB1.lt).alloc (.cells #[.int .i64 K, .slice A15 n15 r15] 24)
      replace hM1 := (hM1.below hb).alloc (.cells #[.int .i64 K, .slice A15 n15 r15] 24)
      replace hB2 := (hB2.below hb hB2.lt).alloc (.cells #[.int .i64 K, .slice A15 n15 r15] 24)
      replace hM2 := (hM2.below hb).alloc (.cells #[.int .i64 K, .slice A15 n15 r15] 24)
      replace hB3 := (hB3.below hb hB3.lt).alloc (.cells #[.int .i64 K, .slice A15 n15 r15] 24)
      replace hM3 := (hM3.below hb).alloc (.cells #[.int .i64 K, .slice A15 n15 r15] 24)
      replace hB4 := (hB4.below hb hB4.lt).alloc (.cells #[.int .i64 K, .slice A15 n15 r15] 24)
      replace hM4 := (hM4.below hb).alloc (.cells #[.int .i64 K, .slice A15 n15 r15] 24)
      replace hB5 := (hB5.below hb hB5.lt).alloc (.cells #[.int .i64 K, .slice A15 n15 r15] 24)
      replace hM5 := (hM5.below hb).alloc (.cells #[.int .i64 K, .slice A15 n15 r15] 24)
      replace hB6 := (hB6.below hb hB6.lt).alloc (.cells #[.int .i64 K, .slice A15 n15 r15] 24)
      replace hM6 := (hM6.below hb).alloc (.cells #[.int .i64 K, .slice A15 n15 r15] 24)
      replace hB7 := (hB7.below hb hB7.lt).alloc (.cells #[.int .i64 K, .slice A15 n15 r15] 24)
      replace hM7 := (hM7.below hb).alloc (.cells #[.int .i64 K, .slice A15 n15 r15] 24)
      replace hB8 := (hB8.below hb hB8.lt).alloc (.cells #[.int .i64 K, .slice A15 n15 r15] 24)
      replace hM8 := (hM8.below hb).alloc (.cells #[.int .i64 K, .slice A15 n15 r15] 24)
      replace hB9 := (hB9.below hb hB9.lt).alloc (.cells #[.int .i64 K, .slice A15 n15 r15] 24)
      replace hM9 := (hM9.below hb).alloc (.cells #[.int .i64 K, .slice A15 n15 r15] 24)
      replace hB10 := (hB10.below hb hB10.lt).alloc (.cells #[.int .i64 K, .slice A15 n15 r15] 24)
      replace hM10 := (hM10.below hb).alloc (.cells #[.int .i64 K, .slice A15 n15 r15] 24)
      replace hB11 := (hB11.below hb hB11.lt).alloc (.cells #[.int .i64 K, .slice A15 n15 r15] 24)
      replace hM11 := (hM11.below hb).alloc (.cells #[.int .i64 K, .slice A15 n15 r15] 24)
      replace hB12 := (hB12.below hb hB12.lt).alloc (.cells #[.int .i64 K, .slice A15 n15 r15] 24)
      replace hM12 := (hM12.below hb).alloc (.cells #[.int .i64 K, .slice A15 n15 r15] 24)
      replace hB13 := (hB13.below hb hB13.lt).alloc (.cells #[.int .i64 K, .slice A15 n15 r15] 24)
      replace hM13 := (hM13.below hb).alloc (.cells #[.int .i64 K, .slice A15 n15 r15] 24)
      replace hB14 := (hB14.below hb hB14.lt).alloc (.cells #[.int .i64 K, .slice A15 n15 r15] 24)
      replace hM14 := (hM14.below hb).alloc (.cells #[.int .i64 K, .slice A15 n15 r15] 24)
      have hbn := (hbx19.more hb).alloc (.cells #[.int .i64 K, .slice A15 n15 r15] 24)
      have hB15 := Blk.new u15 24 #[.int .i64 K, .slice A15 n15 r15]
      have hM15 := hL15.lets.alloc (.cells #[.int .i64 K, .slice A15 n15 r15] 24)
      have hc15 := hL15.row.cap
      go_upto_region 20 with fail
      generalize u15.alloc (.cells #[.int .i64 K, .slice A15 n15 r15] 24) = W15 at hB1 hM1 hB2 hM2 hB3 hM3 hB4 hM4 hB5 hM5 hB6 hM6 hB7 hM7 hB8 hM8 hB9 hM9 hB10 hM10 hB11 hM11 hB12 hM12 hB13 hM13 hB14 hM14 hbn hB15 hM15 ⊢
      have hbx20 := hbn
      clear hbn hbx19 hL15 hb
      have HC16 := Lib.hid (check_turn HC13.out)
      have c0 := ((hB13.cell 0).trans rfl : W15.cell? ⟨u13.heap.size, 0, none⟩ = some (.int .i64 K))
      have c1 := ((hB13.cell 1).trans rfl : W15.cell? ⟨u13.heap.size, 1, none⟩ = some (.slice A13 n13 r13))
      go_wp2_with fail
      refine (code_turn K A13 n13 r13 (normL L) _ hM13 hc13).mono ?_
      intro e u16 hg
      obtain ⟨A16, n16, r16, rfl, hL16, hb⟩ := givesCE_ok HC13.out hg
      clear hg c0 c1
      replace hB1 := (hB1.below hb hB1.lt).alloc (.cells #[.int .i64 K, .slice A16 n16 r16] 24)
      replace hM1 := (hM1.below hb).alloc (.cells #[.int .i64 K, .slice A16 n16 r16] 24)
      replace hB2 := (hB2.below hb hB2.lt).alloc (.cells #[.int .i64 K, .slice A16 n16 r16] 24)
      replace hM2 := (hM2.below hb).alloc (.cells #[.int .i64 K, .slice A16 n16 r16] 24)
      replace hB3 := (hB3.below hb hB3.lt).alloc (.cells #[.int .i64 K, .slice A16 n16 r16] 24)
      replace hM3 := (hM3.below hb).alloc (.cells #[.int .i64 K, .slice A16 n16 r16] 24)
      replace hB4 := (hB4.below hb hB4.lt).alloc (.cells #[.int .i64 K, .slice A16 n16 r16] 24)
      replace hM4 := (hM4.below hb).alloc (.cells #[.int .i64 K, .slice A16 n16 r16] 24)
      replace hB5 := (hB5.below hb hB5.lt).alloc (.cells #[.int .i64 K, .slice A16 n16 r16] 24)
      replace hM5 := (hM5.below hb).alloc (.cells #[.int .i64 K, .slice A16 n16 r16] 24)
      replace hB6 := (hB6.below hb hB6.lt).alloc (.cells #[.int .i64 K, .slice A16 n16 r16] 24)
      replace hM6 := (hM6.below hb).alloc (.cells #[.int .i64 K, .slice A16 n16 r16] 24)
      replace hB7 := (hB7.below hb hB7.lt).alloc (.cells #[.int .i64 K, .slice A16 n16 r16] 24)
      replace hM7 := (hM7.below hb).alloc (.cells #[.int .i64 K, .slice A16 n16 r16] 24)
      replace hB8 := (hB8.below hb hB8.lt).alloc (.cells #[.int .i64 K, .slice A16 n16 r16] 24)
      replace hM8 := (hM8.below hb).alloc (.cells #[.int .i64 K, .slice A16 n16 r16] 24)
      replace hB9 := (hB9.below hb hB9.lt).alloc (.cells #[.int .i64 K, .slice A16 n16 r16] 24)
      replace hM9 := (hM9.below hb).alloc (.cells #[.int .i64 K, .slice A16 n16 r16] 24)
      replace hB10 := (hB10.below hb hB10.lt).alloc (.cells #[.int .i64 K, .slice A16 n16 r16] 24)
      replace hM10 := (hM10.below hb).alloc (.cells #[.int .i64 K, .slice A16 n16 r16] 24)
      replace hB11 := (hB11.below hb hB11.lt).alloc (.cells #[.int .i64 K, .slice A16 n16 r16] 24)
      replace hM11 := (hM11.below hb).alloc (.cells #[.int .i64 K, .slice A16 n16 r16] 24)
      replace hB12 := (hB12.below hb hB12.lt).alloc (.cells #[.int .i64 K, .slice A16 n16 r16] 24)
      replace hM12 := (hM12.below hb).alloc (.cells #[.int .i64 K, .slice A16 n16 r16] 24)
      replace hB13 := (hB13.below hb hB13.lt).alloc (.cells #[.int .i64 K, .slice A16 n16 r16] 24)
      replace hM13 := (hM13.below hb).alloc (.cells #[.int .i64 K, .slice A16 n16 r16] 24)
      replace hB14 := (hB14.below hb hB14.lt).alloc (.cells #[.int .i64 K, .slice A16 n16 r16] 24)
      replace hM14 := (hM14.below hb).alloc (.cells #[.int .i64 K, .slice A16 n16 r16] 24)
      replace hB15 := (hB15.below hb hB15.lt).alloc (.cells #[.int .i64 K, .slice A16 n16 r16] 24)
      replace hM15 := (hM15.below hb).alloc (.cells #[.int .i64 K, .slice A16 n16 r16] 24)
      have hbn := (hbx20.more hb).alloc (.cells #[.int .i64 K, .slice A16 n16 r16] 24)
      have hB16 := Blk.new u16 24 #[.int .i64 K, .slice A16 n16 r16]
      have hM16 := hL16.lets.alloc (.cells #[.int .i64 K, .slice A16 n16 r16] 24)
      have hc16 := hL16.row.cap
      go_upto_region 21 with fail
      generalize u16.alloc (.cells #[.int .i64 K, .slice A16 n16 r16] 24) = W16 at hB1 hM1 hB2 hM2 hB3 hM3 hB4 hM4 hB5 hM5 hB6 hM6 hB7 hM7 hB8 hM8 hB9 hM9 hB10 hM10 hB11 hM11 hB12 hM12 hB13 hM13 hB14 hM14 hB15 hM15 hbn hB16 hM16 ⊢
      have hbx21 := hbn
      clear hbn hbx20 hL16 hb
      have c0 := ((hB4.cell 0).trans rfl : W16.cell? ⟨u4.heap.size, 0, none⟩ = some (.int .i64 K))
      have c1 := ((hB4.cell 1).trans rfl : W16.cell? ⟨u4.heap.size, 1, none⟩ = some (.slice A4 n4 r4))
      have e0 := hbx21.c0
      have e1 := hbx21.c1
      go_wp2_with fail
      clear c0 c1 e0 e1
      refine (equal_yes K A4 A n4 r4 n c (swapL (swapL L)) L _ hM4 (hA.below hbx21.below) (swap_swap L)).mono ?_
      rintro e x1 ⟨rfl, hb⟩
      replace hB1 := hB1.below hb hB1.lt
      replace hM1 := hM1.below hb
      replace hB2 := hB2.below hb hB2.lt
      replace hM2 := hM2.below hb
      replace hB3 := hB3.below hb hB3.lt
      replace hM3 := hM3.below hb
      replace hB4 := hB4.below hb hB4.lt
      replace hM4 := hM4.below hb
      replace hB5 := hB5.below hb hB5.lt
      replace hM5 := hM5.below hb
      replace hB6 := hB6.below hb hB6.lt
      replace hM6 := hM6.below hb
      replace hB7 := hB7.below hb hB7.lt
      replace hM7 := hM7.below hb
      replace hB8 := hB8.below hb hB8.lt
      replace hM8 := hM8.below hb
      replace hB9 := hB9.below hb hB9.lt
      replace hM9 := hM9.below hb
      replace hB10 := hB10.below hb hB10.lt
      replace hM10 := hM10.below hb
      replace hB11 := hB11.below hb hB11.lt
      replace hM11 := hM11.below hb
      replace hB12 := hB12.below hb hB12.lt
      replace hM12 := hM12.below hb
      replace hB13 := hB13.below hb hB13.lt
      replace hM13 := hM13.below hb
      replace hB14 := hB14.below hb hB14.lt
      replace hM14 := hM14.below hb
      replace hB15 := hB15.below hb hB15.lt
      replace hM15 := hM15.below hb
      replace hB16 := hB16.below hb hB16.lt
      replace hM16 := hM16.below hb
      have hbx22 := hbx21.more hb
      clear hbx21 hb
      have c0 := ((hB5.cell 0).trans rfl : x1.cell? ⟨u5.heap.size, 0, none⟩ = some (.int .i64 K))
      have c1 := ((hB5.cell 1).trans rfl : x1.cell? ⟨u5.heap.size, 1, none⟩ = some (.slice A5 n5 r5))
      have e0 := hbx22.c0
      have e1 := hbx22.c1
      go_wp2_with fail
      clear c0 c1 e0 e1
      refine (equal_yes K A5 A n5 r5 n c (mirrorL K (mirrorL K L)) L _ hM5 (hA.below hbx22.below) mirror_mirror).mono ?_
      rintro e x2 ⟨rfl, hb⟩
      replace hB1 := hB1.below hb hB1.lt
      replace hM1 := hM1.below hb
      replace hB2 := hB2.below hb hB2.lt
      replace hM2 := hM2.below hb
      replace hB3 := hB3.below hb hB3.lt
      replace hM3 := hM3.below hb
      replace hB4 := hB4.below hb hB4.lt
      replace hM4 := hM4.below hb
      replace hB5 := hB5.below hb hB5.lt
      replace hM5 := hM5.below hb
      replace hB6 := hB6.below hb hB6.lt
      replace hM6 := hM6.below hb
      replace hB7 := hB7.below hb hB7.lt
      replace hM7 := hM7.below hb
      replace hB8 := hB8.below hb hB8.lt
      replace hM8 := hM8.below hb
      replace hB9 := hB9.below hb hB9.lt
      replace hM9 := hM9.below hb
      replace hB10 := hB10.below hb hB10.lt
      replace hM10 := hM10.below hb
      replace hB11 := hB11.below hb hB11.lt
      replace hM11 := hM11.below hb
      replace hB12 := hB12.below hb hB12.lt
      replace hM12 := hM12.below hb
      replace hB13 := hB13.below hb hB13.lt
      replace hM13 := hM13.below hb
      replace hB14 := hB14.below hb hB14.lt
      replace hM14 := hM14.below hb
      replace hB15 := hB15.below hb hB15.lt
      replace hM15 := hM15.below hb
      replace hB16 := hB16.below hb hB16.lt
      replace hM16 := hM16.below hb
      have hbx23 := hbx22.more hb
      clear hbx22 hb
      have c0 := ((hB6.cell 0).trans rfl : x2.cell? ⟨u6.heap.size, 0, none⟩ = some (.int .i64 K))
      have c1 := ((hB6.cell 1).trans rfl : x2.cell? ⟨u6.heap.size, 1, none⟩ = some (.slice A6 n6 r6))
      have e0 := hbx23.c0
      have e1 := hbx23.c1
      go_wp2_with fail
      clear c0 c1 e0 e1
      refine (law_equal_yes K A6 A n6 r6 n c (turnL (turnL L)) L _ hM6 (hA.below hbx23.below) hc6 hc HC6.out HE.out (n_turn_turn HE.out)).mono ?_
      rintro e x3 ⟨rfl, hb⟩
      replace hB1 := hB1.below hb hB1.lt
      replace hM1 := hM1.below hb
      replace hB2 := hB2.below hb hB2.lt
      replace hM2 := hM2.below hb
      replace hB3 := hB3.below hb hB3.lt
      replace hM3 := hM3.below hb
      replace hB4 := hB4.below hb hB4.lt
      replace hM4 := hM4.below hb
      replace hB5 := hB5.below hb hB5.lt
      replace hM5 := hM5.below hb
      replace hB6 := hB6.below hb hB6.lt
      replace hM6 := hM6.below hb
      replace hB7 := hB7.below hb hB7.lt
      replace hM7 := hM7.below hb
      replace hB8 := hB8.below hb hB8.lt
      replace hM8 := hM8.below hb
      replace hB9 := hB9.below hb hB9.lt
      replace hM9 := hM9.below hb
      replace hB10 := hB10.below hb hB10.lt
      replace hM10 := hM10.below hb
      replace hB11 := hB11.below hb hB11.lt
      replace hM11 := hM11.below hb
      replace hB12 := hB12.below hb hB12.lt
      replace hM12 := hM12.below hb
      replace hB13 := hB13.below hb hB13.lt
      replace hM13 := hM13.below hb
      replace hB14 := hB14.below hb hB14.lt
      replace hM14 := hM14.below hb
      replace hB15 := hB15.below hb hB15.lt
      replace hM15 := hM15.below hb
      replace hB16 := hB16.below hb hB16.lt
      replace hM16 := hM16.below hb
      have hbx24 := hbx23.more hb
      clear hbx23 hb
      have c0 := ((hB7.cell 0).trans rfl : x3.cell? ⟨u7.heap.size, 0, none⟩ = some (.int .i64 K))
      have c1 := ((hB7.cell 1).trans rfl : x3.cell? ⟨u7.heap.size, 1, none⟩ = some (.slice A7 n7 r7))
      have e0 := ((hB8.cell 0).trans rfl : x3.cell? ⟨u8.heap.size, 0, none⟩ = some (.int .i64 K))
      have e1 := ((hB8.cell 1).trans rfl : x3.cell? ⟨u8.heap.size, 1, none⟩ = some (.slice A8 n8 r8))
      go_wp2_with fail
      clear c0 c1 e0 e1
      refine (law_equal_yes K A7 A8 n7 r7 n8 r8 (mirrorL K (swapL L)) (swapL (mirrorL K L)) _ hM7 hM8 hc7 hc8 HC7.out HC8.out (by rw [swap_mirror])).mono ?_
      rintro e x4 ⟨rfl, hb⟩
      replace hB1 := hB1.below hb hB1.lt
      replace hM1 := hM1.below hb
      replace hB2 := hB2.below hb hB2.lt
      replace hM2 := hM2.below hb
      replace hB3 := hB3.below hb hB3.lt
      replace hM3 := hM3.below hb
      replace hB4 := hB4.below hb hB4.lt
      replace hM4 := hM4.below hb
      replace hB5 := hB5.below hb hB5.lt
      replace hM5 := hM5.below hb
      replace hB6 := hB6.below hb hB6.lt
      replace hM6 := hM6.below hb
      replace hB7 := hB7.below hb hB7.lt
      replace hM7 := hM7.below hb
      replace hB8 := hB8.below hb hB8.lt
      replace hM8 := hM8.below hb
      replace hB9 := hB9.below hb hB9.lt
      replace hM9 := hM9.below hb
      replace hB10 := hB10.below hb hB10.lt
      replace hM10 := hM10.below hb
      replace hB11 := hB11.below hb hB11.lt
      replace hM11 := hM11.below hb
      replace hB12 := hB12.below hb hB12.lt
      replace hM12 := hM12.below hb
      replace hB13 := hB13.below hb hB13.lt
      replace hM13 := hM13.below hb
      replace hB14 := hB14.below hb hB14.lt
      replace hM14 := hM14.below hb
      replace hB15 := hB15.below hb hB15.lt
      replace hM15 := hM15.below hb
      replace hB16 := hB16.below hb hB16.lt
      replace hM16 := hM16.below hb
      have hbx25 := hbx24.more hb
      clear hbx24 hb
      have c0 := ((hB9.cell 0).trans rfl : x4.cell? ⟨u9.heap.size, 0, none⟩ = some (.int .i64 K))
      have c1 := ((hB9.cell 1).trans rfl : x4.cell? ⟨u9.heap.size, 1, none⟩ = some (.slice A9 n9 r9))
      have e0 := ((hB10.cell 0).trans rfl : x4.cell? ⟨u10.heap.size, 0, none⟩ = some (.int .i64 K))
      have e1 := ((hB10.cell 1).trans rfl : x4.cell? ⟨u10.heap.size, 1, none⟩ = some (.slice A10 n10 r10))
      go_wp2_with fail
      clear c0 c1 e0 e1
      refine (law_equal_yes K A9 A10 n9 r9 n10 r10 (turnL (swapL L)) (swapL (turnL L)) _ hM9 hM10 hc9 hc10 HC9.out HC10.out (by rw [swap_turn])).mono ?_
      rintro e x5 ⟨rfl, hb⟩
      replace hB1 := hB1.below hb hB1.lt
      replace hM1 := hM1.below hb
      replace hB2 := hB2.below hb hB2.lt
      replace hM2 := hM2.below hb
      replace hB3 := hB3.below hb hB3.lt
      replace hM3 := hM3.below hb
      replace hB4 := hB4.below hb hB4.lt
      replace hM4 := hM4.below hb
      replace hB5 := hB5.below hb hB5.lt
      replace hM5 := hM5.below hb
      replace hB6 := hB6.below hb hB6.lt
      replace hM6 := hM6.below hb
      replace hB7 := hB7.below hb hB7.lt
      replace hM7 := hM7.below hb
      replace hB8 := hB8.below hb hB8.lt
      replace hM8 := hM8.below hb
      replace hB9 := hB9.below hb hB9.lt
      replace hM9 := hM9.below hb
      replace hB10 := hB10.below hb hB10.lt
      replace hM10 := hM10.below hb
      replace hB11 := hB11.below hb hB11.lt
      replace hM11 := hM11.below hb
      replace hB12 := hB12.below hb hB12.lt
      replace hM12 := hM12.below hb
      replace hB13 := hB13.below hb hB13.lt
      replace hM13 := hM13.below hb
      replace hB14 := hB14.below hb hB14.lt
      replace hM14 := hM14.below hb
      replace hB15 := hB15.below hb hB15.lt
      replace hM15 := hM15.below hb
      replace hB16 := hB16.below hb hB16.lt
      replace hM16 := hM16.below hb
      have hbx26 := hbx25.more hb
      clear hbx25 hb
      have c0 := ((hB11.cell 0).trans rfl : x5.cell? ⟨u11.heap.size, 0, none⟩ = some (.int .i64 K))
      have c1 := ((hB11.cell 1).trans rfl : x5.cell? ⟨u11.heap.size, 1, none⟩ = some (.slice A11 n11 r11))
      have e0 := ((hB12.cell 0).trans rfl : x5.cell? ⟨u12.heap.size, 0, none⟩ = some (.int .i64 K))
      have e1 := ((hB12.cell 1).trans rfl : x5.cell? ⟨u12.heap.size, 1, none⟩ = some (.slice A12 n12 r12))
      go_wp2_with fail
      clear c0 c1 e0 e1
      refine (law_equal_yes K A11 A12 n11 r11 n12 r12 (turnL (mirrorL K L)) (mirrorL K (turnL L)) _ hM11 hM12 hc11 hc12 HC11.out HC12.out (by rw [n_mirror_turn HE.out])).mono ?_
      rintro e x6 ⟨rfl, hb⟩
      replace hB1 := hB1.below hb hB1.lt
      replace hM1 := hM1.below hb
      replace hB2 := hB2.below hb hB2.lt
      replace hM2 := hM2.below hb
      replace hB3 := hB3.below hb hB3.lt
      replace hM3 := hM3.below hb
      replace hB4 := hB4.below hb hB4.lt
      replace hM4 := hM4.below hb
      replace hB5 := hB5.below hb hB5.lt
      replace hM5 := hM5.below hb
      replace hB6 := hB6.below hb hB6.lt
      replace hM6 := hM6.below hb
      replace hB7 := hB7.below hb hB7.lt
      replace hM7 := hM7.below hb
      replace hB8 := hB8.below hb hB8.lt
      replace hM8 := hM8.below hb
      replace hB9 := hB9.below hb hB9.lt
      replace hM9 := hM9.below hb
      replace hB10 := hB10.below hb hB10.lt
      replace hM10 := hM10.below hb
      replace hB11 := hB11.below hb hB11.lt
      replace hM11 := hM11.below hb
      replace hB12 := hB12.below hb hB12.lt
      replace hM12 := hM12.below hb
      replace hB13 := hB13.below hb hB13.lt
      replace hM13 := hM13.below hb
      replace hB14 := hB14.below hb hB14.lt
      replace hM14 := hM14.below hb
      replace hB15 := hB15.below hb hB15.lt
      replace hM15 := hM15.below hb
      replace hB16 := hB16.below hb hB16.lt
      replace hM16 := hM16.below hb
      have hbx27 := hbx26.more hb
      clear hbx26 hb
      have c0 := ((hB14.cell 0).trans rfl : x6.cell? ⟨u14.heap.size, 0, none⟩ = some (.int .i64 K))
      have c1 := ((hB14.cell 1).trans rfl : x6.cell? ⟨u14.heap.size, 1, none⟩ = some (.slice A14 n14 r14))
      have e0 := ((hB1.cell 0).trans rfl : x6.cell? ⟨u1.heap.size, 0, none⟩ = some (.int .i64 K))
      have e1 := ((hB1.cell 1).trans rfl : x6.cell? ⟨u1.heap.size, 1, none⟩ = some (.slice A1 n1 r1))
      go_wp2_with fail
      clear c0 c1 e0 e1
      refine (law_equal_yes K A14 A1 n14 r14 n1 r1 (swapL (normL L)) (swapL L) _ hM14 hM1 hc14 hc1 HC14.out HC1.out (n_swap_norm HE.out)).mono ?_
      rintro e x7 ⟨rfl, hb⟩
      replace hB1 := hB1.below hb hB1.lt
      replace hM1 := hM1.below hb
      replace hB2 := hB2.below hb hB2.lt
      replace hM2 := hM2.below hb
      replace hB3 := hB3.below hb hB3.lt
      replace hM3 := hM3.below hb
      replace hB4 := hB4.below hb hB4.lt
      replace hM4 := hM4.below hb
      replace hB5 := hB5.below hb hB5.lt
      replace hM5 := hM5.below hb
      replace hB6 := hB6.below hb hB6.lt
      replace hM6 := hM6.below hb
      replace hB7 := hB7.below hb hB7.lt
      replace hM7 := hM7.below hb
      replace hB8 := hB8.below hb hB8.lt
      replace hM8 := hM8.below hb
      replace hB9 := hB9.below hb hB9.lt
      replace hM9 := hM9.below hb
      replace hB10 := hB10.below hb hB10.lt
      replace hM10 := hM10.below hb
      replace hB11 := hB11.below hb hB11.lt
      replace hM11 := hM11.below hb
      replace hB12 := hB12.below hb hB12.lt
      replace hM12 := hM12.below hb
      replace hB13 := hB13.below hb hB13.lt
      replace hM13 := hM13.below hb
      replace hB14 := hB14.below hb hB14.lt
      replace hM14 := hM14.below hb
      replace hB15 := hB15.below hb hB15.lt
      replace hM15 := hM15.below hb
      replace hB16 := hB16.below hb hB16.lt
      replace hM16 := hM16.below hb
      have hbx28 := hbx27.more hb
      clear hbx27 hb
      have c0 := ((hB15.cell 0).trans rfl : x7.cell? ⟨u15.heap.size, 0, none⟩ = some (.int .i64 K))
      have c1 := ((hB15.cell 1).trans rfl : x7.cell? ⟨u15.heap.size, 1, none⟩ = some (.slice A15 n15 r15))
      have e0 := ((hB2.cell 0).trans rfl : x7.cell? ⟨u2.heap.size, 0, none⟩ = some (.int .i64 K))
      have e1 := ((hB2.cell 1).trans rfl : x7.cell? ⟨u2.heap.size, 1, none⟩ = some (.slice A2 n2 r2))
      go_wp2_with fail
      clear c0 c1 e0 e1
      refine (law_equal_yes K A15 A2 n15 r15 n2 r2 (mirrorL K (normL L)) (mirrorL K L) _ hM15 hM2 hc15 hc2 HC15.out HC2.out (n_mirror_norm HE.out)).mono ?_
      rintro e x8 ⟨rfl, hb⟩
      replace hB1 := hB1.below hb hB1.lt
      replace hM1 := hM1.below hb
      replace hB2 := hB2.below hb hB2.lt
      replace hM2 := hM2.below hb
      replace hB3 := hB3.below hb hB3.lt
      replace hM3 := hM3.below hb
      replace hB4 := hB4.below hb hB4.lt
      replace hM4 := hM4.below hb
      replace hB5 := hB5.below hb hB5.lt
      replace hM5 := hM5.below hb
      replace hB6 := hB6.below hb hB6.lt
      replace hM6 := hM6.below hb
      replace hB7 := hB7.below hb hB7.lt
      replace hM7 := hM7.below hb
      replace hB8 := hB8.below hb hB8.lt
      replace hM8 := hM8.below hb
      replace hB9 := hB9.below hb hB9.lt
      replace hM9 := hM9.below hb
      replace hB10 := hB10.below hb hB10.lt
      replace hM10 := hM10.below hb
      replace hB11 := hB11.below hb hB11.lt
      replace hM11 := hM11.below hb
      replace hB12 := hB12.below hb hB12.lt
      replace hM12 := hM12.below hb
      replace hB13 := hB13.below hb hB13.lt
      replace hM13 := hM13.below hb
      replace hB14 := hB14.below hb hB14.lt
      replace hM14 := hM14.below hb
      replace hB15 := hB15.below hb hB15.lt
      replace hM15 := hM15.below hb
      replace hB16 := hB16.below hb hB16.lt
      replace hM16 := hM16.below hb
      have hbx29 := hbx28.more hb
      clear hbx28 hb
      have c0 := ((hB16.cell 0).trans rfl : x8.cell? ⟨u16.heap.size, 0, none⟩ = some (.int .i64 K))
      have c1 := ((hB16.cell 1).trans rfl : x8.cell? ⟨u16.heap.size, 1, none⟩ = some (.slice A16 n16 r16))
      have e0 := ((hB3.cell 0).trans rfl : x8.cell? ⟨u3.heap.size, 0, none⟩ = some (.int .i64 K))
      have e1 := ((hB3.cell 1).trans rfl : x8.cell? ⟨u3.heap.size, 1, none⟩ = some (.slice A3 n3 r3))
      go_wp2_with fail
      clear c0 c1 e0 e1
      refine (law_equal_yes K A16 A3 n16 r16 n3 r3 (turnL (normL L)) (turnL L) _ hM16 hM3 hc16 hc3 HC16.out HC3.out (n_turn_norm HE.out)).mono ?_
      rintro e x9 ⟨rfl, hb⟩
      replace hB1 := hB1.below hb hB1.lt
      replace hM1 := hM1.below hb
      replace hB2 := hB2.below hb hB2.lt
      replace hM2 := hM2.below hb
      replace hB3 := hB3.below hb hB3.lt
      replace hM3 := hM3.below hb
      replace hB4 := hB4.below hb hB4.lt
      replace hM4 := hM4.below hb
      replace hB5 := hB5.below hb hB5.lt
      replace hM5 := hM5.below hb
      replace hB6 := hB6.below hb hB6.lt
      replace hM6 := hM6.below hb
      replace hB7 := hB7.below hb hB7.lt
      replace hM7 := hM7.below hb
      replace hB8 := hB8.below hb hB8.lt
      replace hM8 := hM8.below hb
      replace hB9 := hB9.below hb hB9.lt
      replace hM9 := hM9.below hb
      replace hB10 := hB10.below hb hB10.lt
      replace hM10 := hM10.below hb
      replace hB11 := hB11.below hb hB11.lt
      replace hM11 := hM11.below hb
      replace hB12 := hB12.below hb hB12.lt
      replace hM12 := hM12.below hb
      replace hB13 := hB13.below hb hB13.lt
      replace hM13 := hM13.below hb
      replace hB14 := hB14.below hb hB14.lt
      replace hM14 := hM14.below hb
      replace hB15 := hB15.below hb hB15.lt
      replace hM15 := hM15.below hb
      replace hB16 := hB16.below hb hB16.lt
      replace hM16 := hM16.below hb
      have hbx30 := hbx29.more hb
      clear hbx29 hb
      go_wp2_with fail
      refine (law_known _).mono ?_
      rintro e zz ⟨rfl, hb⟩
      go_wp2_with fail
      go_ret
      exact ⟨rfl, (hbx30.more hb).below⟩
    · have q : (E != 0) = true := by simpa using hz
      clear hz
      go_enter Tryd.func14, Tryd.ntmps14
      go_wp2_with fail
      generalize w.alloc (.cells #[.int .i64 K, .slice A n c] 24) = X at hbx ⊢
      have hbx0 := hbx
      clear hbx
      refine (law_small K A n c L _ (hA.below hbx0.below)).mono ?_
      rintro e w1 ⟨rfl, hb⟩
      rw [HD.out]
      have hbx1 := hbx0.more hb
      clear hbx0 hb
      have c0 := hbx1.c0
      have c1 := hbx1.c1
      go_wp2_with fail
      refine (ref_Check K A n c L _ (hA.below hbx1.below)).mono ?_
      rintro e w2 ⟨rfl, hb⟩
      rw [HE.out]
      clear c0 c1
      have hbx2 := hbx1.more hb
      clear hbx1 hb
      go_wp2_with fail
      refine (law_known _).mono ?_
      rintro e w3 ⟨rfl, hb⟩
      go_wp2_with fail
      go_ret
      exact ⟨rfl, (hbx2.more hb).below⟩
  · have hd : decide (n ≤ 60) = false := by simpa using h60
    have HD := Lib.hid hd
    clear hd
    go_enter Tryd.func14, Tryd.ntmps14
    go_wp2_with fail
    generalize w.alloc (.cells #[.int .i64 K, .slice A n c] 24) = X at hbx ⊢
    have hbx0 := hbx
    clear hbx
    refine (law_small K A n c L _ (hA.below hbx0.below)).mono ?_
    rintro e w1 ⟨rfl, hb⟩
    rw [HD.out]
    have hbx1 := hbx0.more hb
    clear hbx0 hb
    go_wp2_with fail
    refine (law_known _).mono ?_
    rintro e w2 ⟨rfl, hb⟩
    go_wp2_with fail
    go_ret
    exact ⟨rfl, (hbx1.more hb).below⟩
end Go.Proofs.YtkjcmppaapbabaaDoor
