/-
  The law CodeTurns returns true and leaves what was there. Condition: the argument reads as a code.
-/
import Derived.Test.YtkjcmppaapbabaaDoorN6
import Derived.Test.YtkjcmppaapbabaaDoorL8
import Derived.Test.YtkjcmppaapbabaaDoorT14
import Derived.Test.YtkjcmppaapbabaaDoorT11
import Derived.Test.YtkjcmppaapbabaaDoorT8
namespace Go.Proofs.YtkjcmppaapbabaaDoor
open Go.RowKit
theorem givesCE_ok {w : World} {K : Int} {L M : List Lt} (h : checkE K L = 0) {e : Ending} {w' : World} (hg : GivesCE w (keepK K L) (keepL K L M) (checkE K L) e w') : GivesCE w K M 0 e w' := by
  rw [keepK_ok h, keepL_ok h, h] at hg
  exact hg
set_option maxRecDepth 100000 in
set_option maxHeartbeats 6400000 in
theorem codeTurns_any (K : Int) (A : Option Addr) (n c : Nat) (L : List Lt) (w : World) (hA : Lets w A n L) (hc : n ≤ c) :
    Calls Tryd.prog 8 #[.agg #[.int .i64 K, .slice A n c]] w fun e w' => e = .returned (.bool true) ∧ Below w.heap.size w w' := by
  have hLn := Lib.hid hA.len
  have hbx := Boxed.refl w K A n c
  by_cases h60 : n ≤ 60
  · have hd : decide (n ≤ 60) = true := by simpa using h60
    have HD := Lib.hid hd
    clear hd
    obtain ⟨E, hE⟩ : ∃ E, checkE K L = E := ⟨_, rfl⟩
    have HE := Lib.hid hE
    clear hE
    by_cases hz : E = 0
    · subst hz
      have HSM := Lib.hid (tame_of_check HE.out)
      have hq : ∀ (wy : World) (A3 A5 : Option Addr) (n3 k3 n5 c5 B : Nat) (M : List Lt), Lets wy A3 n3 M → OwnL wy B A5 n5 c5 M → Calls Tryd.prog 34 #[.agg #[.int .i64 K, .slice A3 n3 k3], .agg #[.int .i64 K, .slice A5 n5 c5]] wy fun e w' => e = .returned (.bool true) ∧ Below wy.heap.size wy w' := fun wy A3 A5 n3 k3 n5 c5 B M h3 h5 => by
        have := cref_Equal K K A3 A5 n3 k3 n5 c5 M M wy h3 h5.lets
        rw [show (K == K && decide (M = M)) = true by simp] at this
        exact this
      have HQ := Lib.hid hq
      clear hq
      go_enter Tryd.func8, Tryd.ntmps8
      go_wp2_with fail
      generalize w.alloc (.cells #[.int .i64 K, .slice A n c] 24) = X at hbx ⊢
      refine (law_small K A n c L _ (hA.below (Boxed.below hbx))).mono ?_
      rintro e w1 ⟨rfl, hb1⟩
      rw [HD.out]
      have hbx1 := Boxed.more hbx hb1
      have c0 := hbx1.c0
      have c1 := hbx1.c1
      clear hbx hb1
      go_wp2_with fail
      refine (ref_Check K A n c L _ (hA.below hbx1.below)).mono ?_
      rintro e w2 ⟨rfl, hb2⟩
      rw [HE.out]
      have hbx2 := hbx1.more hb2
      clear hbx1 hb2 c0 c1
      have c0 := hbx2.c0
      have c1 := hbx2.c1
      go_wp2_with fail
      refine (code_back K A n c L _ (hA.below hbx2.below) hc).mono ?_
      intro e u1 hg
      obtain ⟨A1, n1, r1, rfl, hL1, hb1⟩ := givesCE_ok HE.out hg
      clear hg c0 c1
      have hbn := (hbx2.more hb1).alloc (.cells #[.int .i64 K, .slice A1 n1 r1] 24)
      have hB1 := Blk.new u1 24 #[.int .i64 K, .slice A1 n1 r1]
      have hM1 := hL1.lets.alloc (.cells #[.int .i64 K, .slice A1 n1 r1] 24)
      go_upto_region 4 with fail
      generalize u1.alloc (.cells #[.int .i64 K, .slice A1 n1 r1] 24) = W1 at hbn hB1 hM1 ⊢
      have hbx3 := hbn
      clear hbn hbx2 hL1 hb1
      have c0 := hbx3.c0
      have c1 := hbx3.c1
      go_wp2_with fail
      refine (code_swap K A n c L _ (hA.below hbx3.below) hc).mono ?_
      intro e u2 hg
      obtain ⟨A2, n2, r2, rfl, hL2, hb2⟩ := givesCE_ok HE.out hg
      clear hg c0 c1
      have hbn := (hbx3.more hb2).alloc (.cells #[.int .i64 K, .slice A2 n2 r2] 24)
      have hB2 := Blk.new u2 24 #[.int .i64 K, .slice A2 n2 r2]
      have hM2 := hL2.lets.alloc (.cells #[.int .i64 K, .slice A2 n2 r2] 24)
      have hC1 := (hB1.below hb2 hB1.lt).alloc (.cells #[.int .i64 K, .slice A2 n2 r2] 24)
      have hN1 := (hM1.below hb2).alloc (.cells #[.int .i64 K, .slice A2 n2 r2] 24)
      clear hB1 hM1
      go_upto_region 5 with fail
      generalize u2.alloc (.cells #[.int .i64 K, .slice A2 n2 r2] 24) = W2 at hbn hB2 hM2 hC1 hN1 ⊢
      have hB1 := hC1
      have hM1 := hN1
      clear hC1 hN1
      have hbx4 := hbn
      clear hbn hbx3 hL2 hb2
      have c0 := hbx4.c0
      have c1 := hbx4.c1
      go_wp2_with fail
      refine (code_mirror K A n c L _ (hA.below hbx4.below) hc).mono ?_
      intro e u3 hg
      obtain ⟨A3, n3, r3, rfl, hL3, hb3⟩ := givesCE_ok HE.out hg
      clear hg c0 c1
      have hbn := (hbx4.more hb3).alloc (.cells #[.int .i64 K, .slice A3 n3 r3] 24)
      have hB3 := Blk.new u3 24 #[.int .i64 K, .slice A3 n3 r3]
      have hM3 := hL3.lets.alloc (.cells #[.int .i64 K, .slice A3 n3 r3] 24)
      have hC1 := (hB1.below hb3 hB1.lt).alloc (.cells #[.int .i64 K, .slice A3 n3 r3] 24)
      have hN1 := (hM1.below hb3).alloc (.cells #[.int .i64 K, .slice A3 n3 r3] 24)
      clear hB1 hM1
      have hC2 := (hB2.below hb3 hB2.lt).alloc (.cells #[.int .i64 K, .slice A3 n3 r3] 24)
      have hN2 := (hM2.below hb3).alloc (.cells #[.int .i64 K, .slice A3 n3 r3] 24)
      clear hB2 hM2
      go_upto_region 6 with fail
      generalize u3.alloc (.cells #[.int .i64 K, .slice A3 n3 r3] 24) = W3 at hbn hB3 hM3 hC1 hN1 hC2 hN2 ⊢
      have hB1 := hC1
      have hM1 := hN1
      clear hC1 hN1
      have hB2 := hC2
      have hM2 := hN2
      clear hC2 hN2
      have hbx5 := hbn
      clear hbn hbx4 hL3 hb3
      have c0 := hbx5.c0
      have c1 := hbx5.c1
      go_wp2_with fail
      refine (code_turn K A n c L _ (hA.below hbx5.below) hc).mono ?_
      intro e u4 hg
      obtain ⟨A4, n4, r4, rfl, hL4, hb4⟩ := givesCE_ok HE.out hg
      clear hg c0 c1
      have hbn := (hbx5.more hb4).alloc (.cells #[.int .i64 K, .slice A4 n4 r4] 24)
      have hB4 := Blk.new u4 24 #[.int .i64 K, .slice A4 n4 r4]
      have hM4 := hL4.lets.alloc (.cells #[.int .i64 K, .slice A4 n4 r4] 24)
      have hC1 := (hB1.below hb4 hB1.lt).alloc (.cells #[.int .i64 K, .slice A4 n4 r4] 24)
      have hN1 := (hM1.below hb4).alloc (.cells #[.int .i64 K, .slice A4 n4 r4] 24)
      clear hB1 hM1
      have hC2 := (hB2.below hb4 hB2.lt).alloc (.cells #[.int .i64 K, .slice A4 n4 r4] 24)
      have hN2 := (hM2.below hb4).alloc (.cells #[.int .i64 K, .slice A4 n4 r4] 24)
      clear hB2 hM2
      have hC3 := (hB3.below hb4 hB3.lt).alloc (.cells #[.int .i64 K, .slice A4 n4 r4] 24)
      have hN3 := (hM3.below hb4).alloc (.cells #[.int .i64 K, .slice A4 n4 r4] 24)
      clear hB3 hM3
      go_upto_region 7 with fail
      generalize u4.alloc (.cells #[.int .i64 K, .slice A4 n4 r4] 24) = W4 at hbn hB4 hM4 hC1 hN1 hC2 hN2 hC3 hN3 ⊢
      have hB1 := hC1
      have hM1 := hN1
      clear hC1 hN1
      have hB2 := hC2
      have hM2 := hN2
      clear hC2 hN2
      have hB3 := hC3
      have hM3 := hN3
      clear hC3 hN3
      have hbx6 := hbn
      clear hbn hbx5 hL4 hb4
      have c0 := hbx6.c0
      have c1 := hbx6.c1
      have k0 : ∀ wx, Below W4.heap.size W4 wx → (Below W4.heap.size W4 wx ∧ wx.cell? ⟨w.heap.size, 0, none⟩ = some (.int .i64 K) ∧ wx.cell? ⟨w.heap.size, 1, none⟩ = some (.slice A n c) ∧ wx.cell? ⟨u1.heap.size, 0, none⟩ = some (.int .i64 K) ∧ wx.cell? ⟨u1.heap.size, 1, none⟩ = some (.slice A1 n1 r1) ∧ wx.cell? ⟨u2.heap.size, 0, none⟩ = some (.int .i64 K) ∧ wx.cell? ⟨u2.heap.size, 1, none⟩ = some (.slice A2 n2 r2) ∧ wx.cell? ⟨u3.heap.size, 0, none⟩ = some (.int .i64 K) ∧ wx.cell? ⟨u3.heap.size, 1, none⟩ = some (.slice A3 n3 r3) ∧ wx.cell? ⟨u4.heap.size, 0, none⟩ = some (.int .i64 K) ∧ wx.cell? ⟨u4.heap.size, 1, none⟩ = some (.slice A4 n4 r4)) := fun wx h => ⟨h, (hbx6.more h).c0, (hbx6.more h).c1, ((hB1.below h hB1.lt).cell 0).trans rfl, ((hB1.below h hB1.lt).cell 1).trans rfl, ((hB2.below h hB2.lt).cell 0).trans rfl, ((hB2.below h hB2.lt).cell 1).trans rfl, ((hB3.below h hB3.lt).cell 0).trans rfl, ((hB3.below h hB3.lt).cell 1).trans rfl, ((hB4.below h hB4.lt).cell 0).trans rfl, ((hB4.below h hB4.lt).cell 1).trans rfl⟩
      have k1 : ∀ wx, Below W4.heap.size W4 wx → Calls Tryd.prog 45 #[.agg #[.int .i64 K, .slice A n c]] wx (GivesC wx K (backL L)) := fun wx h => cref_Back K A n c L wx (hA.below (hbx6.more h).below) HSM.out
      have m1 : ∀ wx A5 n5 c5 B, Below W4.heap.size W4 wx → OwnL wx B A5 n5 c5 (backL L) → Calls Tryd.prog 34 #[.agg #[.int .i64 K, .slice A1 n1 r1], .agg #[.int .i64 K, .slice A5 n5 c5]] wx fun e w' => e = .returned (.bool true) ∧ Below wx.heap.size wx w' := fun wx A5 n5 c5 B h h5 => HQ.out wx A1 A5 n1 r1 n5 c5 B _ (hM1.below h) h5
      have k2 : ∀ wx, Below W4.heap.size W4 wx → Calls Tryd.prog 46 #[.agg #[.int .i64 K, .slice A n c]] wx (GivesC wx K (swapL L)) := fun wx h => cref_Swap K A n c L wx (hA.below (hbx6.more h).below) HSM.out
      have m2 : ∀ wx A5 n5 c5 B, Below W4.heap.size W4 wx → OwnL wx B A5 n5 c5 (swapL L) → Calls Tryd.prog 34 #[.agg #[.int .i64 K, .slice A2 n2 r2], .agg #[.int .i64 K, .slice A5 n5 c5]] wx fun e w' => e = .returned (.bool true) ∧ Below wx.heap.size wx w' := fun wx A5 n5 c5 B h h5 => HQ.out wx A2 A5 n2 r2 n5 c5 B _ (hM2.below h) h5
      have k3 : ∀ wx, Below W4.heap.size W4 wx → Calls Tryd.prog 47 #[.agg #[.int .i64 K, .slice A n c]] wx (GivesC wx K (mirrorL K L)) := fun wx h => cref_Mirror K A n c L wx (hA.below (hbx6.more h).below) HSM.out
      have m3 : ∀ wx A5 n5 c5 B, Below W4.heap.size W4 wx → OwnL wx B A5 n5 c5 (mirrorL K L) → Calls Tryd.prog 34 #[.agg #[.int .i64 K, .slice A3 n3 r3], .agg #[.int .i64 K, .slice A5 n5 c5]] wx fun e w' => e = .returned (.bool true) ∧ Below wx.heap.size wx w' := fun wx A5 n5 c5 B h h5 => HQ.out wx A3 A5 n3 r3 n5 c5 B _ (hM3.below h) h5
      have k4 : ∀ wx, Below W4.heap.size W4 wx → Calls Tryd.prog 48 #[.agg #[.int .i64 K, .slice A n c]] wx (GivesC wx K (turnL L)) := fun wx h => cref_TurnOver K A n c L wx (hA.below (hbx6.more h).below) HSM.out
      have m4 : ∀ wx A5 n5 c5 B, Below W4.heap.size W4 wx → OwnL wx B A5 n5 c5 (turnL L) → Calls Tryd.prog 34 #[.agg #[.int .i64 K, .slice A4 n4 r4], .agg #[.int .i64 K, .slice A5 n5 c5]] wx fun e w' => e = .returned (.bool true) ∧ Below wx.heap.size wx w' := fun wx A5 n5 c5 B h h5 => HQ.out wx A4 A5 n4 r4 n5 c5 B _ (hM4.below h) h5
      have KP := Lib.hid k0
      have K1 := Lib.hid k1
      have Q1 := Lib.hid m1
      have K2 := Lib.hid k2
      have Q2 := Lib.hid m2
      have K3 := Lib.hid k3
      have Q3 := Lib.hid m3
      have K4 := Lib.hid k4
      have Q4 := Lib.hid m4
      have hbw := hbx6.below
      clear k0 k1 k2 k3 k4 m1 m2 m3 m4 c0 c1
      have p1 := ((hB1.cell 0).trans rfl : W4.cell? ⟨u1.heap.size, 0, none⟩ = some (.int .i64 K))
      have q1 := ((hB1.cell 1).trans rfl : W4.cell? ⟨u1.heap.size, 1, none⟩ = some (.slice A1 n1 r1))
      have p2 := ((hB2.cell 0).trans rfl : W4.cell? ⟨u2.heap.size, 0, none⟩ = some (.int .i64 K))
      have q2 := ((hB2.cell 1).trans rfl : W4.cell? ⟨u2.heap.size, 1, none⟩ = some (.slice A2 n2 r2))
      have p3 := ((hB3.cell 0).trans rfl : W4.cell? ⟨u3.heap.size, 0, none⟩ = some (.int .i64 K))
      have q3 := ((hB3.cell 1).trans rfl : W4.cell? ⟨u3.heap.size, 1, none⟩ = some (.slice A3 n3 r3))
      have p4 := ((hB4.cell 0).trans rfl : W4.cell? ⟨u4.heap.size, 0, none⟩ = some (.int .i64 K))
      have q4 := ((hB4.cell 1).trans rfl : W4.cell? ⟨u4.heap.size, 1, none⟩ = some (.slice A4 n4 r4))
      have c0 := hbx6.c0
      have c1 := hbx6.c1
      first
        | go_region_held3 (fun wx => Below W4.heap.size W4 wx ∧ wx.cell? ⟨w.heap.size, 0, none⟩ = some (.int .i64 K) ∧ wx.cell? ⟨w.heap.size, 1, none⟩ = some (.slice A n c) ∧ wx.cell? ⟨u1.heap.size, 0, none⟩ = some (.int .i64 K) ∧ wx.cell? ⟨u1.heap.size, 1, none⟩ = some (.slice A1 n1 r1) ∧ wx.cell? ⟨u2.heap.size, 0, none⟩ = some (.int .i64 K) ∧ wx.cell? ⟨u2.heap.size, 1, none⟩ = some (.slice A2 n2 r2) ∧ wx.cell? ⟨u3.heap.size, 0, none⟩ = some (.int .i64 K) ∧ wx.cell? ⟨u3.heap.size, 1, none⟩ = some (.slice A3 n3 r3) ∧ wx.cell? ⟨u4.heap.size, 0, none⟩ = some (.int .i64 K) ∧ wx.cell? ⟨u4.heap.size, 1, none⟩ = some (.slice A4 n4 r4)) (first | assumption | exact KP.out _ (Below.refl _ _).drew | exact KP.out _ (below_chain (And.left (by assumption)) (by assumption) (Below.size (And.left (by assumption)))))
            (first
              | ((go_at_call 45; refine (K1.out _ (And.left (by assumption))).mono ?_; rintro e y1 ⟨B1, m1, d1, rfl, hO1, hy1⟩))
              | ((go_at_call 46; refine (K2.out _ (And.left (by assumption))).mono ?_; rintro e y2 ⟨B2, m2, d2, rfl, hO2, hy2⟩))
              | ((go_at_call 47; refine (K3.out _ (And.left (by assumption))).mono ?_; rintro e y3 ⟨B3, m3, d3, rfl, hO3, hy3⟩))
              | ((go_at_call 48; refine (K4.out _ (And.left (by assumption))).mono ?_; rintro e y4 ⟨B4, m4, d4, rfl, hO4, hy4⟩))
              | ((go_at_call 34; ((with_reducible refine (Q1.out _ _ _ _ _ (And.left (by assumption)) hO1).mono ?_); rintro e z1 ⟨rfl, hz1⟩)))
              | ((go_at_call 34; ((with_reducible refine (Q2.out _ _ _ _ _ (And.left (by assumption)) hO2).mono ?_); rintro e z2 ⟨rfl, hz2⟩)))
              | ((go_at_call 34; ((with_reducible refine (Q3.out _ _ _ _ _ (And.left (by assumption)) hO3).mono ?_); rintro e z3 ⟨rfl, hz3⟩)))
              | ((go_at_call 34; ((with_reducible refine (Q4.out _ _ _ _ _ (And.left (by assumption)) hO4).mono ?_); rintro e z4 ⟨rfl, hz4⟩)))
              | ((go_at_call 22; refine (law_known _).mono ?_; rintro e zz ⟨rfl, hzz⟩)))
        | fail
      all_goals
        have hbf := And.left (show Below W4.heap.size W4 _ ∧ _ by assumption)
        clear c0 c1 p1 p2 p3 p4 q1 q2 q3 q4
        go_wp2_with fail
        go_ret
        exact ⟨rfl, below_chain hbw hbf (by have := hbw.size; omega)⟩
    · have q : (E != 0) = true := by simpa using hz
      clear hz
      go_enter Tryd.func8, Tryd.ntmps8
      go_wp2_with fail
      generalize w.alloc (.cells #[.int .i64 K, .slice A n c] 24) = X at hbx ⊢
      refine (law_small K A n c L _ (hA.below (Boxed.below hbx))).mono ?_
      rintro e w1 ⟨rfl, hb1⟩
      rw [HD.out]
      have hbx1 := Boxed.more hbx hb1
      have c0 := hbx1.c0
      have c1 := hbx1.c1
      clear hbx hb1
      go_wp2_with fail
      refine (ref_Check K A n c L _ (hA.below hbx1.below)).mono ?_
      rintro e w2 ⟨rfl, hb2⟩
      rw [HE.out]
      have hbx2 := hbx1.more hb2
      clear hbx1 hb2 c0 c1
      go_wp2_with fail
      refine (law_known _).mono ?_
      rintro e w3 ⟨rfl, hb3⟩
      go_wp2_with fail
      go_ret
      exact ⟨rfl, (hbx2.more hb3).below⟩
  · have hd : decide (n ≤ 60) = false := by simpa using h60
    have HD := Lib.hid hd
    clear hd
    go_enter Tryd.func8, Tryd.ntmps8
    go_wp2_with fail
    generalize w.alloc (.cells #[.int .i64 K, .slice A n c] 24) = X at hbx ⊢
    refine (law_small K A n c L _ (hA.below (Boxed.below hbx))).mono ?_
    rintro e w1 ⟨rfl, hb1⟩
    rw [HD.out]
    have hbx1 := Boxed.more hbx hb1
    clear hbx hb1
    go_wp2_with fail
    refine (law_known _).mono ?_
    rintro e w2 ⟨rfl, hb2⟩
    go_wp2_with fail
    go_ret
    exact ⟨rfl, (hbx1.more hb2).below⟩
end Go.Proofs.YtkjcmppaapbabaaDoor
