/-
  The law CodeNormals returns true and leaves what was there. Condition: the argument reads as a code.
-/
import Derived.Test.YtkjcmppaapbabaaDoorJN
import Derived.Test.YtkjcmppaapbabaaDoorJL
import Derived.Test.YtkjcmppaapbabaaDoorJS
import Derived.Test.YtkjcmppaapbabaaDoorJR
namespace Go.Proofs.YtkjcmppaapbabaaDoor
open Go.RowKit
set_option maxRecDepth 100000 in
set_option maxHeartbeats 12800000 in
theorem codeNormals_any (K : Int) (A : Option Addr) (n c : Nat) (L : List Lt) (w : World) (hA : Lets w A n L) (hc : n ≤ c) :
    Calls Tryd.prog 9 #[.agg #[.int .i64 K, .slice A n c]] w fun e w' => e = .returned (.bool true) ∧ Below w.heap.size w w' := by
  have hLn := Lib.hid hA.len
  have hbx := Boxed.refl w K A n c
  by_cases h60 : n ≤ 60
  · have hd : decide (n ≤ 60) = true := by simpa using h60
    have HD := Lib.hid hd
    clear hd
    obtain ⟨E, hE⟩ : ∃ E, checkE K L = E := ⟨_, rfl⟩
    have HE := Lib.hid hE
    clear hE
    by_cases hz : E = 0
    · subst hz
      have HSM := Lib.hid (tame_of_check HE.out)
      have hq : ∀ (wy : World) (A3 A5 : Option Addr) (n3 k3 n5 c5 B : Nat) (M : List Lt), Lets wy A3 n3 M → OwnL wy B A5 n5 c5 M → Calls Tryd.prog 34 #[.agg #[.int .i64 K, .slice A3 n3 k3], .agg #[.int .i64 K, .slice A5 n5 c5]] wy fun e w' => e = .returned (.bool true) ∧ Below wy.heap.size wy w' := fun wy A3 A5 n3 k3 n5 c5 B M h3 h5 => by
        have := cref_Equal K K A3 A5 n3 k3 n5 c5 M M wy h3 h5.lets
        rw [show (K == K && decide (M = M)) = true by simp] at this
        exact this
      have HQ := Lib.hid hq
      clear hq
      go_enter Tryd.func9, Tryd.ntmps9
      go_wp2_with fail
      generalize w.alloc (.cells #[.int .i64 K, .slice A n c] 24) = X at hbx ⊢
      have hbx0 := hbx
      clear hbx
      refine (law_small K A n c L _ (hA.below hbx0.below)).mono ?_
      rintro e w1 ⟨rfl, hb⟩
      rw [HD.out]
      have hbx1 := hbx0.more hb
      clear hbx0 hb
      have c0 := hbx1.c0
      have c1 := hbx1.c1
      go_wp2_with fail
      refine (ref_Check K A n c L _ (hA.below hbx1.below)).mono ?_
      rintro e w2 ⟨rfl, hb⟩
      rw [HE.out]
      clear c0 c1
      have hbx2 := hbx1.more hb
      clear hbx1 hb
      have c0 := hbx2.c0
      have c1 := hbx2.c1
      go_wp2_with fail
      refine (code_Normal K A n c L _ (hA.below hbx2.below) hc).mono ?_
      intro e u1 hg
      obtain ⟨A1, n1, r1, rfl, hL1, hb⟩ := givesCE_ok HE.out hg
      clear hg c0 c1
      have hbn := (hbx2.more hb).alloc (.cells #[.int .i64 K, .slice A1 n1 r1] 24)
      have hB1 := Blk.new u1 24 #[.int .i64 K, .slice A1 n1 r1]
      have hM1 := hL1.lets.alloc (.cells #[.int .i64 K, .slice A1 n1 r1] 24)
      have hc1 := hL1.row.cap
      go_upto_region 4 with fail
      generalize u1.alloc (.cells #[.int .i64 K, .slice A1 n1 r1] 24) = W1 at hbn hB1 hM1 ⊢
      have hbx3 := hbn
      clear hbn hbx2 hL1 hb
      have c0 := hbx3.c0
      have c1 := hbx3.c1
      go_wp2_with fail
      refine (code_rename K A n c L _ (hA.below hbx3.below) hc).mono ?_
      intro e u2 hg
      obtain ⟨A2, n2, r2, rfl, hL2, hb⟩ := givesCE_ok HE.out hg
      clear hg c0 c1
      replace hB1 := (hB1.below hb hB1.lt).alloc (.cells #[.int .i64 K, .slice A2 n2 r2] 24)
      replace hM1 := (hM1.below hb).alloc (.cells #[.int .i64 K, .slice A2 n2 r2] 24)
      have hbn := (hbx3.more hb).alloc (.cells #[.int .i64 K, .slice A2 n2 r2] 24)
      have hB2 := Blk.new u2 24 #[.int .i64 K, .slice A2 n2 r2]
      have hM2 := hL2.lets.alloc (.cells #[.int .i64 K, .slice A2 n2 r2] 24)
      have hc2 := hL2.row.cap
      go_upto_region 5 with fail
      generalize u2.alloc (.cells #[.int .i64 K, .slice A2 n2 r2] 24) = W2 at hB1 hM1 hbn hB2 hM2 ⊢
      have hbx4 := hbn
      clear hbn hbx3 hL2 hb
      have k1 : ∀ wx, Below W2.heap.size W2 wx → Calls Tryd.prog 51 #[.agg #[.int .i64 K, .slice A n c]] wx (GivesC wx K (normL L)) := fun wx h => cref_Normal K A n c L wx (hA.below (hbx4.more h).below) hc HE.out
      have m1 : ∀ wx A5 n5 c5 B, Below W2.heap.size W2 wx → OwnL wx B A5 n5 c5 (normL L) → Calls Tryd.prog 34 #[.agg #[.int .i64 K, .slice A1 n1 r1], .agg #[.int .i64 K, .slice A5 n5 c5]] wx fun e w' => e = .returned (.bool true) ∧ Below wx.heap.size wx w' := fun wx A5 n5 c5 B h h5 => HQ.out wx A1 A5 n1 r1 n5 c5 B _ (hM1.below h) h5
      have K1 := Lib.hid k1
      have Q1 := Lib.hid m1
      clear k1 m1
      have k2 : ∀ wx, Below W2.heap.size W2 wx → Calls Tryd.prog 52 #[.agg #[.int .i64 K, .slice A n c]] wx (GivesC wx K (renL L)) := fun wx h => cref_Rename K A n c L wx (hA.below (hbx4.more h).below) (by omega)
      have m2 : ∀ wx A5 n5 c5 B, Below W2.heap.size W2 wx → OwnL wx B A5 n5 c5 (renL L) → Calls Tryd.prog 34 #[.agg #[.int .i64 K, .slice A2 n2 r2], .agg #[.int .i64 K, .slice A5 n5 c5]] wx fun e w' => e = .returned (.bool true) ∧ Below wx.heap.size wx w' := fun wx A5 n5 c5 B h h5 => HQ.out wx A2 A5 n2 r2 n5 c5 B _ (hM2.below h) h5
      have K2 := Lib.hid k2
      have Q2 := Lib.hid m2
      clear k2 m2
      have k0 : ∀ wx, Below W2.heap.size W2 wx → (Below W2.heap.size W2 wx ∧ wx.cell? ⟨w.heap.size, 0, none⟩ = some (.int .i64 K) ∧ wx.cell? ⟨w.heap.size, 1, none⟩ = some (.slice A n c) ∧ wx.cell? ⟨u1.heap.size, 0, none⟩ = some (.int .i64 K) ∧ wx.cell? ⟨u1.heap.size, 1, none⟩ = some (.slice A1 n1 r1) ∧ wx.cell? ⟨u2.heap.size, 0, none⟩ = some (.int .i64 K) ∧ wx.cell? ⟨u2.heap.size, 1, none⟩ = some (.slice A2 n2 r2)) := fun wx h => ⟨h, (hbx4.more h).c0, (hbx4.more h).c1, ((hB1.below h hB1.lt).cell 0).trans rfl, ((hB1.below h hB1.lt).cell 1).trans rfl, ((hB2.below h hB2.lt).cell 0).trans rfl, ((hB2.below h hB2.lt).cell 1).trans rfl⟩
      have KP := Lib.hid k0
      have hbw := hbx4.below
      clear k0
      have g0 := (KP.out W2 (Below.refl _ _)).2.1
      have g1 := (KP.out W2 (Below.refl _ _)).2.2.1
      have g2 := (KP.out W2 (Below.refl _ _)).2.2.2.1
      have g3 := (KP.out W2 (Below.refl _ _)).2.2.2.2.1
      have g4 := (KP.out W2 (Below.refl _ _)).2.2.2.2.2.1
      have g5 := (KP.out W2 (Below.refl _ _)).2.2.2.2.2.2
      first
        | go_region_held3 (fun wx => Below W2.heap.size W2 wx ∧ wx.cell? ⟨w.heap.size, 0, none⟩ = some (.int .i64 K) ∧ wx.cell? ⟨w.heap.size, 1, none⟩ = some (.slice A n c) ∧ wx.cell? ⟨u1.heap.size, 0, none⟩ = some (.int .i64 K) ∧ wx.cell? ⟨u1.heap.size, 1, none⟩ = some (.slice A1 n1 r1) ∧ wx.cell? ⟨u2.heap.size, 0, none⟩ = some (.int .i64 K) ∧ wx.cell? ⟨u2.heap.size, 1, none⟩ = some (.slice A2 n2 r2)) (first | assumption | exact KP.out _ (Below.refl _ _).drew | exact KP.out _ (below_chain (And.left (by assumption)) (by assumption) (Below.size (And.left (by assumption)))))
            (first
              | ((go_at_call 51; refine (K1.out _ (And.left (by assumption))).mono ?_; rintro e y1 ⟨B1, m1, d1, rfl, hO1, hy1⟩))
              | ((go_at_call 34; ((with_reducible refine (Q1.out _ _ _ _ _ (And.left (by assumption)) hO1).mono ?_); rintro e z1 ⟨rfl, hz1⟩)))
              | ((go_at_call 52; refine (K2.out _ (And.left (by assumption))).mono ?_; rintro e y2 ⟨B2, m2, d2, rfl, hO2, hy2⟩))
              | ((go_at_call 34; ((with_reducible refine (Q2.out _ _ _ _ _ (And.left (by assumption)) hO2).mono ?_); rintro e z2 ⟨rfl, hz2⟩)))
              | ((go_at_call 22; refine (law_known _).mono ?_; rintro e zz ⟨rfl, hzz⟩)))
        | fail
      all_goals
        have hbf := And.left (show Below W2.heap.size W2 _ ∧ _ by assumption)
        clear g0 g1 g2 g3 g4 g5
        go_wp2_with fail
        go_ret
        exact ⟨rfl, below_chain hbw hbf (by have := hbw.size; omega)⟩
    · have q : (E != 0) = true := by simpa using hz
      clear hz
      go_enter Tryd.func9, Tryd.ntmps9
      go_wp2_with fail
      generalize w.alloc (.cells #[.int .i64 K, .slice A n c] 24) = X at hbx ⊢
      have hbx0 := hbx
      clear hbx
      refine (law_small K A n c L _ (hA.below hbx0.below)).mono ?_
      rintro e w1 ⟨rfl, hb⟩
      rw [HD.out]
      have hbx1 := hbx0.more hb
      clear hbx0 hb
      have c0 := hbx1.c0
      have c1 := hbx1.c1
      go_wp2_with fail
      refine (ref_Check K A n c L _ (hA.below hbx1.below)).mono ?_
      rintro e w2 ⟨rfl, hb⟩
      rw [HE.out]
      clear c0 c1
      have hbx2 := hbx1.more hb
      clear hbx1 hb
      go_wp2_with fail
      refine (law_known _).mono ?_
      rintro e w3 ⟨rfl, hb⟩
      go_wp2_with fail
      go_ret
      exact ⟨rfl, (hbx2.more hb).below⟩
  · have hd : decide (n ≤ 60) = false := by simpa using h60
    have HD := Lib.hid hd
    clear hd
    go_enter Tryd.func9, Tryd.ntmps9
    go_wp2_with fail
    generalize w.alloc (.cells #[.int .i64 K, .slice A n c] 24) = X at hbx ⊢
    have hbx0 := hbx
    clear hbx
    refine (law_small K A n c L _ (hA.below hbx0.below)).mono ?_
    rintro e w1 ⟨rfl, hb⟩
    rw [HD.out]
    have hbx1 := hbx0.more hb
    clear hbx0 hb
    go_wp2_with fail
    refine (law_known _).mono ?_
    rintro e w2 ⟨rfl, hb⟩
    go_wp2_with fail
    go_ret
    exact ⟨rfl, (hbx1.more hb).below⟩
end Go.Proofs.YtkjcmppaapbabaaDoor
