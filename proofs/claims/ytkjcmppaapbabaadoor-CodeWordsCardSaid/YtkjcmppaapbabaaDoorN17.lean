/-
  The law CodeWords returns true and leaves what was there. Condition: the argument reads as a code.
-/
import Derived.Test.YtkjcmppaapbabaaDoorJN
import Derived.Test.YtkjcmppaapbabaaDoorJL
import Derived.Test.YtkjcmppaapbabaaDoorJT
import Derived.Test.YtkjcmppaapbabaaDoorJQ
import Derived.Test.YtkjcmppaapbabaaDoorJZ
namespace Go.Proofs.YtkjcmppaapbabaaDoor
open Go.RowKit
set_option maxRecDepth 100000 in
set_option maxHeartbeats 12800000 in
theorem codeWords_any (K : Int) (A : Option Addr) (n c : Nat) (L : List Lt) (w : World) (hA : Lets w A n L) (hc : n ≤ c) :
    Calls Tryd.prog 17 #[.agg #[.int .i64 K, .slice A n c]] w fun e w' => e = .returned (.bool true) ∧ Below w.heap.size w w' := by
  have hLn := Lib.hid hA.len
  have hbx := Boxed.refl w K A n c
  by_cases h60 : n ≤ 60
  · have hd : decide (n ≤ 60) = true := by simpa using h60
    have HD := Lib.hid hd
    clear hd
    obtain ⟨E, hE⟩ : ∃ E, checkE K L = E := ⟨_, rfl⟩
    have HE := Lib.hid hE
    clear hE
    by_cases hz : E = 0
    · subst hz
      have HSM := Lib.hid (tame_of_check HE.out)
      go_enter Tryd.func17, Tryd.ntmps17
      go_wp2_with fail
      generalize w.alloc (.cells #[.int .i64 K, .slice A n c] 24) = X at hbx ⊢
      have hbx0 := hbx
      clear hbx
      refine (law_small K A n c L _ (hA.below hbx0.below)).mono ?_
      rintro e w1 ⟨rfl, hb⟩
      rw [HD.out]
      have hbx1 := hbx0.more hb
      clear hbx0 hb
      have c0 := hbx1.c0
      have c1 := hbx1.c1
      go_wp2_with fail
      refine (ref_Check K A n c L _ (hA.below hbx1.below)).mono ?_
      rintro e w2 ⟨rfl, hb⟩
      rw [HE.out]
      clear c0 c1
      have hbx2 := hbx1.more hb
      clear hbx1 hb
      have c0 := hbx2.c0
      have c1 := hbx2.c1
      have HW0 := Lib.hid (word_of HE.out)
      have HV0 := Lib.hid (wd_valid HE.out)
      go_wp2_with fail
      clear c0 c1
      refine (w_word K A n c L HE.out _ (hA.below hbx2.below) hc).mono ?_
      rintro e v1 ⟨Q1, q1, z1, rfl, hO1, hb⟩
      have hcI1 := hO1.cap
      have hI1 := hO1.ints
      clear hO1
      have hbx3 := hbx2.more hb
      clear hbx2 hb
      have c0 := hbx3.c0
      have c1 := hbx3.c1
      go_wp2_with fail
      clear c0 c1
      refine (w_cref K A n c L _ (hA.below hbx3.below)).mono ?_
      rintro e v2 ⟨Q2, q2, z2, rfl, hO2, hb⟩
      have hcI2 := hO2.cap
      have hI2 := hO2.ints
      clear hO2
      replace hI1 := hI1.below hb
      have hbx4 := hbx3.more hb
      clear hbx3 hb
      go_wp2_with fail
      refine (w_equal Q1 Q2 q1 q2 z1 z2 (wd L) (wd L) rfl _ hI1 hI2).mono ?_
      rintro e x1 ⟨rfl, hb⟩
      replace hI1 := hI1.below hb
      replace hI2 := hI2.below hb
      have hbx5 := hbx4.more hb
      clear hbx4 hb
      clear hI2 hcI2
      have HC1 := Lib.hid (check_back HE.out)
      have HC2 := Lib.hid (check_mirror HE.out)
      have HC3 := Lib.hid (check_turn HE.out)
      have c0 := hbx5.c0
      have c1 := hbx5.c1
      go_wp2_with fail
      refine (code_back K A n c L _ (hA.below hbx5.below) hc).mono ?_
      intro e u1 hg
      obtain ⟨A1, n1, r1, rfl, hL1, hb⟩ := givesCE_ok HE.out hg
      clear hg c0 c1
      replace hI1 := (hI1.below hb).alloc (.cells #[.int .i64 K, .slice A1 n1 r1] 24)
      have hbn := (hbx5.more hb).alloc (.cells #[.int .i64 K, .slice A1 n1 r1] 24)
      have hB1 := Blk.new u1 24 #[.int .i64 K, .slice A1 n1 r1]
      have hM1 := hL1.lets.alloc (.cells #[.int .i64 K, .slice A1 n1 r1] 24)
      have hc1 := hL1.row.cap
      go_upto_region 7 with fail
      generalize u1.alloc (.cells #[.int .i64 K, .slice A1 n1 r1] 24) = W1 at hI1 hbn hB1 hM1 ⊢
      have hbx6 := hbn
      clear hbn hbx5 hL1 hb
      have c0 := hbx6.c0
      have c1 := hbx6.c1
      go_wp2_with fail
      refine (code_mirror K A n c L _ (hA.below hbx6.below) hc).mono ?_
      intro e u2 hg
      obtain ⟨A2, n2, r2, rfl, hL2, hb⟩ := givesCE_ok HE.out hg
      clear hg c0 c1
      replace hI1 := (hI1.below hb).alloc (.cells #[.int .i64 K, .slice A2 n2 r2] 24)
      replace hB1 := (hB1.below hb hB1.lt).alloc (.cells #[.int .i64 K, .slice A2 n2 r2] 24)
      replace hM1 := (hM1.below hb).alloc (.cells #[.int .i64 K, .slice A2 n2 r2] 24)
      have hbn := (hbx6.more hb).alloc (.cells #[.int .i64 K, .slice A2 n2 r2] 24)
      have hB2 := Blk.new u2 24 #[.int .i64 K, .slice A2 n2 r2]
      have hM2 := hL2.lets.alloc (.cells #[.int .i64 K, .slice A2 n2 r2] 24)
      have hc2 := hL2.row.cap
      go_upto_region 8 with fail
      generalize u2.alloc (.cells #[.int .i64 K, .slice A2 n2 r2] 24) = W2 at hI1 hB1 hM1 hbn hB2 hM2 ⊢
      have hbx7 := hbn
      clear hbn hbx6 hL2 hb
      have c0 := hbx7.c0
      have c1 := hbx7.c1
      go_wp2_with fail
      refine (code_turn K A n c L _ (hA.below hbx7.below) hc).mono ?_
      intro e u3 hg
      obtain ⟨A3, n3, r3, rfl, hL3, hb⟩ := givesCE_ok HE.out hg
      clear hg c0 c1
      replace hI1 := (hI1.below hb).alloc (.cells #[.int .i64 K, .slice A3 n3 r3] 24)
      replace hB1 := (hB1.below hb hB1.lt).alloc (.cells #[.int .i64 K, .slice A3 n3 r3] 24)
      replace hM1 := (hM1.below hb).alloc (.cells #[.int .i64 K, .slice A3 n3 r3] 24)
      replace hB2 := (hB2.below hb hB2.lt).alloc (.cells #[.int .i64 K, .slice A3 n3 r3] 24)
      replace hM2 := (hM2.below hb).alloc (.cells #[.int .i64 K, .slice A3 n3 r3] 24)
      have hbn := (hbx7.more hb).alloc (.cells #[.int .i64 K, .slice A3 n3 r3] 24)
      have hB3 := Blk.new u3 24 #[.int .i64 K, .slice A3 n3 r3]
      have hM3 := hL3.lets.alloc (.cells #[.int .i64 K, .slice A3 n3 r3] 24)
      have hc3 := hL3.row.cap
      go_upto_region 9 with fail
      generalize u3.alloc (.cells #[.int .i64 K, .slice A3 n3 r3] 24) = W3 at hI1 hB1 hM1 hB2 hM2 hbn hB3 hM3 ⊢
      have hbx8 := hbn
      clear hbn hbx7 hL3 hb
      have c0 := ((hB1.cell 0).trans rfl : W3.cell? ⟨u1.heap.size, 0, none⟩ = some (.int .i64 K))
      have c1 := ((hB1.cell 1).trans rfl : W3.cell? ⟨u1.heap.size, 1, none⟩ = some (.slice A1 n1 r1))
      go_wp2_with fail
      clear c0 c1
      refine (w_word K A1 n1 r1 (backL L) HC1.out _ hM1 hc1).mono ?_
      rintro e v3 ⟨Q3, q3, z3, rfl, hO3, hb⟩
      have hcI3 := hO3.cap
      have hI3 := hO3.ints
      clear hO3
      replace hI1 := hI1.below hb
      replace hB1 := hB1.below hb hB1.lt
      replace hM1 := hM1.below hb
      replace hB2 := hB2.below hb hB2.lt
      replace hM2 := hM2.below hb
      replace hB3 := hB3.below hb hB3.lt
      replace hM3 := hM3.below hb
      have hbx9 := hbx8.more hb
      clear hbx8 hb
      have c0 := ((hB2.cell 0).trans rfl : v3.cell? ⟨u2.heap.size, 0, none⟩ = some (.int .i64 K))
      have c1 := ((hB2.cell 1).trans rfl : v3.cell? ⟨u2.heap.size, 1, none⟩ = some (.slice A2 n2 r2))
      go_wp2_with fail
      clear c0 c1
      refine (w_word K A2 n2 r2 (mirrorL K L) HC2.out _ hM2 hc2).mono ?_
      rintro e v4 ⟨Q4, q4, z4, rfl, hO4, hb⟩
      have hcI4 := hO4.cap
      have hI4 := hO4.ints
      clear hO4
      replace hI1 := hI1.below hb
      replace hI3 := hI3.below hb
      replace hB1 := hB1.below hb hB1.lt
      replace hM1 := hM1.below hb
      replace hB2 := hB2.below hb hB2.lt
      replace hM2 := hM2.below hb
      replace hB3 := hB3.below hb hB3.lt
      replace hM3 := hM3.below hb
      have hbx10 := hbx9.more hb
      clear hbx9 hb
      have c0 := ((hB3.cell 0).trans rfl : v4.cell? ⟨u3.heap.size, 0, none⟩ = some (.int .i64 K))
      have c1 := ((hB3.cell 1).trans rfl : v4.cell? ⟨u3.heap.size, 1, none⟩ = some (.slice A3 n3 r3))
      go_wp2_with fail
      clear c0 c1
      refine (w_word K A3 n3 r3 (turnL L) HC3.out _ hM3 hc3).mono ?_
      rintro e v5 ⟨Q5, q5, z5, rfl, hO5, hb⟩
      have hcI5 := hO5.cap
      have hI5 := hO5.ints
      clear hO5
      replace hI1 := hI1.below hb
      replace hI3 := hI3.below hb
      replace hI4 := hI4.below hb
      replace hB1 := hB1.below hb hB1.lt
      replace hM1 := hM1.below hb
      replace hB2 := hB2.below hb hB2.lt
      replace hM2 := hM2.below hb
      replace hB3 := hB3.below hb hB3.lt
      replace hM3 := hM3.below hb
      have hbx11 := hbx10.more hb
      clear hbx10 hb
      go_wp2_with fail
      refine (w_same Q1 Q3 q1 z1 q3 z3 (wd L) (wd (backL L)) HW0.out (word_of HC1.out) (wd_back HE.out).symm _ hI1 hI3).mono ?_
      rintro e x2 ⟨rfl, hb⟩
      replace hI1 := hI1.below hb
      replace hI3 := hI3.below hb
      replace hI4 := hI4.below hb
      replace hI5 := hI5.below hb
      replace hB1 := hB1.below hb hB1.lt
      replace hM1 := hM1.below hb
      replace hB2 := hB2.below hb hB2.lt
      replace hM2 := hM2.below hb
      replace hB3 := hB3.below hb hB3.lt
      replace hM3 := hM3.below hb
      have hbx12 := hbx11.more hb
      clear hbx11 hb
      have c0 := hbx12.c0
      have c1 := hbx12.c1
      go_wp2_with fail
      clear c0 c1
      refine (w_mirror K Q1 q1 z1 (wd L) HV0.out _ hI1).mono ?_
      rintro e v6 ⟨Q6, q6, z6, rfl, hO6, hb⟩
      have hcI6 := hO6.cap
      have hI6 := hO6.ints
      clear hO6
      replace hI1 := hI1.below hb
      replace hI3 := hI3.below hb
      replace hI4 := hI4.below hb
      replace hI5 := hI5.below hb
      replace hB1 := hB1.below hb hB1.lt
      replace hM1 := hM1.below hb
      replace hB2 := hB2.below hb hB2.lt
      replace hM2 := hM2.below hb
      replace hB3 := hB3.below hb hB3.lt
      replace hM3 := hM3.below hb
      have hbx13 := hbx12.more hb
      clear hbx12 hb
      go_wp2_with fail
      refine (w_turn Q1 q1 z1 (wd L) HW0.out _ hI1 hcI1).mono ?_
      rintro e v7 ⟨Q7, q7, z7, rfl, hO7, hb⟩
      have hcI7 := hO7.cap
      have hI7 := hO7.ints
      clear hO7
      replace hI1 := hI1.below hb
      replace hI3 := hI3.below hb
      replace hI4 := hI4.below hb
      replace hI5 := hI5.below hb
      replace hI6 := hI6.below hb
      replace hB1 := hB1.below hb hB1.lt
      replace hM1 := hM1.below hb
      replace hB2 := hB2.below hb hB2.lt
      replace hM2 := hM2.below hb
      replace hB3 := hB3.below hb hB3.lt
      replace hM3 := hM3.below hb
      have hbx14 := hbx13.more hb
      clear hbx13 hb
      go_wp2_with fail
      refine (w_same Q7 Q5 q7 z7 q5 z5 (tnL (wd L)) (wd (turnL L)) (wordB_turnL HW0.out) (word_of HC3.out) (wd_turn HE.out) _ hI7 hI5).mono ?_
      rintro e x3 ⟨rfl, hb⟩
      replace hI1 := hI1.below hb
      replace hI3 := hI3.below hb
      replace hI4 := hI4.below hb
      replace hI5 := hI5.below hb
      replace hI6 := hI6.below hb
      replace hI7 := hI7.below hb
      replace hB1 := hB1.below hb hB1.lt
      replace hM1 := hM1.below hb
      replace hB2 := hB2.below hb hB2.lt
      replace hM2 := hM2.below hb
      replace hB3 := hB3.below hb hB3.lt
      replace hM3 := hM3.below hb
      have hbx15 := hbx14.more hb
      clear hbx14 hb
      go_wp2_with fail
      refine (w_equal Q6 Q4 q6 q4 z6 z4 ((wd L).map (K - ·)) (wd (mirrorL K L)) wd_mirror.symm _ hI6 hI4).mono ?_
      rintro e x4 ⟨rfl, hb⟩
      replace hI1 := hI1.below hb
      replace hI3 := hI3.below hb
      replace hI4 := hI4.below hb
      replace hI5 := hI5.below hb
      replace hI6 := hI6.below hb
      replace hI7 := hI7.below hb
      replace hB1 := hB1.below hb hB1.lt
      replace hM1 := hM1.below hb
      replace hB2 := hB2.below hb hB2.lt
      replace hM2 := hM2.below hb
      replace hB3 := hB3.below hb hB3.lt
      replace hM3 := hM3.below hb
      have hbx16 := hbx15.more hb
      clear hbx15 hb
      go_wp2_with fail
      refine (law_known _).mono ?_
      rintro e zz ⟨rfl, hb⟩
      go_wp2_with fail
      go_ret
      exact ⟨rfl, (hbx16.more hb).below⟩
    · have q : (E != 0) = true := by simpa using hz
      clear hz
      go_enter Tryd.func17, Tryd.ntmps17
      go_wp2_with fail
      generalize w.alloc (.cells #[.int .i64 K, .slice A n c] 24) = X at hbx ⊢
      have hbx0 := hbx
      clear hbx
      refine (law_small K A n c L _ (hA.below hbx0.below)).mono ?_
      rintro e w1 ⟨rfl, hb⟩
      rw [HD.out]
      have hbx1 := hbx0.more hb
      clear hbx0 hb
      have c0 := hbx1.c0
      have c1 := hbx1.c1
      go_wp2_with fail
      refine (ref_Check K A n c L _ (hA.below hbx1.below)).mono ?_
      rintro e w2 ⟨rfl, hb⟩
      rw [HE.out]
      clear c0 c1
      have hbx2 := hbx1.more hb
      clear hbx1 hb
      go_wp2_with fail
      refine (law_known _).mono ?_
      rintro e w3 ⟨rfl, hb⟩
      go_wp2_with fail
      go_ret
      exact ⟨rfl, (hbx2.more hb).below⟩
  · have hd : decide (n ≤ 60) = false := by simpa using h60
    have HD := Lib.hid hd
    clear hd
    go_enter Tryd.func17, Tryd.ntmps17
    go_wp2_with fail
    generalize w.alloc (.cells #[.int .i64 K, .slice A n c] 24) = X at hbx ⊢
    have hbx0 := hbx
    clear hbx
    refine (law_small K A n c L _ (hA.below hbx0.below)).mono ?_
    rintro e w1 ⟨rfl, hb⟩
    rw [HD.out]
    have hbx1 := hbx0.more hb
    clear hbx0 hb
    go_wp2_with fail
    refine (law_known _).mono ?_
    rintro e w2 ⟨rfl, hb⟩
    go_wp2_with fail
    go_ret
    exact ⟨rfl, (hbx1.more hb).below⟩
end Go.Proofs.YtkjcmppaapbabaaDoor
