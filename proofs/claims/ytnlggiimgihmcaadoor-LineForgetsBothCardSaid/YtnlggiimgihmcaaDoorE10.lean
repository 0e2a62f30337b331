/-
  Walk: LineForgetsBoth returns true. Conditions: the slice reads.
-/
import Derived.Test.YtnlggiimgihmcaaDoorE2
import Derived.Test.YtnlggiimgihmcaaDoorP10
namespace Go.Proofs.YtnlggiimgihmcaaDoor
open Go.RowKit
set_option maxHeartbeats 3200000 in
set_option maxRecDepth 100000 in
theorem lineForgetsBoth_any (K : Int) (A : Option Addr) (n c : Nat) (L : List Int) (f g : Int) (w : World) (_ : I64 K) (hA : Ints w A n L) (_ : n ≤ c) (_ : I64 f) (_ : I64 g) :
    Calls Tryd.prog 6 #[.int .i64 K, .slice A n c, .int .i64 f, .int .i64 g] w fun e w' => e = .returned (.bool true) ∧ Below w.heap.size w w' := by
  by_cases h : validB K L = true
  · by_cases h1 : f < 1
    · have HV := Lib.hid h
      clear h
      have w_0 := hA
      have B_0 := Below.refl w.heap.size w
      go_enter Tryd.func6, Tryd.ntmps6
      go_wp2_with (first | (go_at_call 20; refine (ref_valid_is HV.out _ _ _ _ w_0).mono ?_; rintro e w' ⟨rfl, rfl⟩))
      refine (law_known _).mono ?_
      rintro e u1 ⟨rfl, hb⟩
      have B_1 := below_chain B_0 hb B_0.size
      clear B_0 hb
      go_wp2_with fail
      go_ret
      exact ⟨rfl, B_1⟩
    · by_cases h2 : f < g
      · by_cases h3 : g ≤ K
        · obtain ⟨hK1, hK2⟩ := k_of_validB h
          obtain ⟨N, rfl⟩ : ∃ N : Nat, K = N := ⟨K.toNat, by omega⟩
          have he := validB_even h
          have Vg := validB_forget h (show 1 ≤ g by omega) h3
          have Vf := validB_forget h (show 1 ≤ f by omega) (show f ≤ (N : Int) by omega)
          have HW := Lib.hid (errW_of (validB_word h))
          have G1 := Lib.hid (errG_of h (show 1 ≤ g by omega) h3)
          have G2 := Lib.hid (errG_of Vg (show 1 ≤ f by omega) (show f ≤ (N : Int) - 1 by omega))
          have G3 := Lib.hid (errG_of h (show 1 ≤ f by omega) (show f ≤ (N : Int) by omega))
          have G4 := Lib.hid (errG_of Vf (show 1 ≤ g - 1 by omega) (show g - 1 ≤ (N : Int) - 1 by omega))
          have G5 := Lib.hid (errG_of (validB_normalL h) (show 1 ≤ f by omega) (show f ≤ (N : Int) by omega))
          have E1 : Hid ((normalL ((normalL (L.map (dropG g))).map (dropG f)) == normalL ((normalL (L.map (dropG f))).map (dropG (g - 1)))) = true) := by
            unfold Hid; rw [forget_both h2 he]; exact beq_self_eq_true _
          have E2 : Hid ((normalL ((normalL L).map (dropG f)) == normalL (L.map (dropG f))) = true) := by unfold Hid; rw [normalL_map _ he]; exact beq_self_eq_true _
          have HV := Lib.hid h
          clear h he Vg Vf
          have w_0 := hA
          have B_0 := Below.refl w.heap.size w
          go_enter Tryd.func6, Tryd.ntmps6
          go_wp2_with (first | (go_at_call 20; refine (ref_valid_is HV.out _ _ _ _ w_0).mono ?_; rintro e w' ⟨rfl, rfl⟩))
          refine (line_Forget _ _ _ _ _ _ _ w_0).mono ?_
          intro e u1 hg
          obtain ⟨X1, m1, c1, rfl, hX, hb⟩ := gives_ok3 hg G1.out
          have a_1 := hX.ints
          have ac := hX.cap
          have w_1 := w_0.below hb
          have B_1 := below_chain B_0 hb B_0.size
          clear w_0 B_0 hb
          clear hg hX
          go_wp2_with fail
          refine (line_Forget _ _ _ _ _ _ _ a_1).mono ?_
          intro e u2 hg
          obtain ⟨X2, m2, c2, rfl, hX, hb⟩ := gives_ok3 hg G2.out
          have ab_2 := hX.ints
          have abc := hX.cap
          have w_2 := w_1.below hb
          have a_2 := a_1.below hb
          have B_2 := below_chain B_1 hb B_1.size
          clear w_1 a_1 B_1 hb
          clear hg hX
          clear a_2
          go_wp2_with fail
          refine (line_Forget _ _ _ _ _ _ _ w_2).mono ?_
          intro e u3 hg
          obtain ⟨X3, m3, c3, rfl, hX, hb⟩ := gives_ok3 hg G3.out
          have b_3 := hX.ints
          have bc := hX.cap
          have w_3 := w_2.below hb
          have ab_3 := ab_2.below hb
          have B_3 := below_chain B_2 hb B_2.size
          clear w_2 ab_2 B_2 hb
          clear hg hX
          go_wp2_with fail
          refine (line_Forget _ _ _ _ _ _ _ b_3).mono ?_
          intro e u4 hg
          obtain ⟨X4, m4, c4, rfl, hX, hb⟩ := gives_ok3 hg G4.out
          have ba_4 := hX.ints
          have bac := hX.cap
          have w_4 := w_3.below hb
          have ab_4 := ab_3.below hb
          have b_4 := b_3.below hb
          have B_4 := below_chain B_3 hb B_3.size
          clear w_3 ab_3 b_3 B_3 hb
          clear hg hX
          go_wp2_with fail
          refine (law_normal _ _ _ _ _ w_4).mono ?_
          rintro e u5 ⟨X5, m5, c5, rfl, hX, hb⟩
          rw [okL_yes HW.out] at hX
          have nw_5 := hX.ints
          have nwc := hX.cap
          have w_5 := w_4.below hb
          have ab_5 := ab_4.below hb
          have b_5 := b_4.below hb
          have ba_5 := ba_4.below hb
          have B_5 := below_chain B_4 hb B_4.size
          clear w_4 ab_4 b_4 ba_4 B_4 hb
          clear hX
          go_wp2_with fail
          refine (line_Forget _ _ _ _ _ _ _ nw_5).mono ?_
          intro e u6 hg
          obtain ⟨X6, m6, c6, rfl, hX, hb⟩ := gives_ok3 hg G5.out
          have c_6 := hX.ints
          have cc := hX.cap
          have w_6 := w_5.below hb
          have ab_6 := ab_5.below hb
          have b_6 := b_5.below hb
          have ba_6 := ba_5.below hb
          have nw_6 := nw_5.below hb
          have B_6 := below_chain B_5 hb B_5.size
          clear w_5 ab_5 b_5 ba_5 nw_5 B_5 hb
          clear hg hX
          clear nw_6
          go_wp2_with fail
          refine (ref_equal _ _ _ _ _ _ _ _ _ ab_6 ba_6).mono ?_
          rintro e u7 ⟨rfl, hd⟩
          rw [E1.out]
          have w_7 := w_6.drawn hd
          have ab_7 := ab_6.drawn hd
          have b_7 := b_6.drawn hd
          have ba_7 := ba_6.drawn hd
          have c_7 := c_6.drawn hd
          have B_7 := B_6.trans (hd.below _)
          clear w_6 ab_6 b_6 ba_6 c_6 B_6 hd
          clear ab_7 ba_7
          go_wp2_with fail
          refine (ref_equal _ _ _ _ _ _ _ _ _ c_7 b_7).mono ?_
          rintro e u8 ⟨rfl, hd⟩
          rw [E2.out]
          have w_8 := w_7.drawn hd
          have b_8 := b_7.drawn hd
          have c_8 := c_7.drawn hd
          have B_8 := B_7.trans (hd.below _)
          clear w_7 b_7 c_7 B_7 hd
          clear c_8 b_8
          go_wp2_with fail
          go_loopw [12, 19, 20] (fun e v i wr => ∃ (j m : Nat) (B : Option Addr) (d : Nat) (R : List Int), i = .int .i64 j ∧ e = .int .i64 0 ∧ v = .slice B m d ∧ Ints wr B m R ∧ Below u8.heap.size u8 wr ∧ j ≤ 40 ∧ Hid (validB j R = true)) (fun _ _ i _ => (intOf i).toNat)
          case atStart => exact ⟨N, _, _, _, L, rfl, rfl, rfl, w_8, Below.refl _ _, by omega, HV⟩
          case round =>
            obtain ⟨j, m, B, d, R, rfl, rfl, rfl, hR, hb, hj40, HR⟩ := hrel
            by_cases hlt : 1 ≤ j
            · have G := Lib.hid (errG_of HR.out (show (1 : Int) ≤ (j : Int) by omega) (Int.le_refl _))
              have HR' : Hid (validB ((j - 1 : Nat) : Int) (normalL (R.map (dropG j))) = true) := by
                unfold Hid
                have := validB_forget HR.out (show (1 : Int) ≤ (j : Int) by omega) (Int.le_refl _)
                rwa [show (j : Int) - 1 = ((j - 1 : Nat) : Int) by omega] at this
              have hj1 : Hid ((j : Int) - 1 = ((j - 1 : Nat) : Int)) := by unfold Hid; omega
              go_wp2_with fail
              refine (line_Forget _ _ _ _ _ _ _ hR).mono ?_
              intro e v1 hg
              obtain ⟨X, mX, cX, rfl, hX, hb2⟩ := gives_ok3 hg G.out
              have hR2 := hX.ints
              have hb3 := below_chain hb hb2 hb.size
              clear hg hX hb hb2 hR G
              go_wp2_with fail
              go_roundw
              case rel => exact ⟨j - 1, mX, X, cX, _, by rw [hj1.out], rfl, rfl, hR2, hb3, by omega, HR'⟩
              case measure => simp [intOf]; omega
            · obtain rfl : j = 0 := by omega
              have B_0 := below_chain B_8 hb B_8.size
              have HWR := Lib.hid (errW_of (validB_word HR.out))
              have HZ : Hid (normalL R = []) := normalL_zeros HR.out
              clear w_8 B_8 hb
              go_wp2_with fail
              refine (law_normal _ _ _ _ _ hR).mono ?_
              rintro e v1 ⟨X, mX, cX, rfl, hX, hb⟩
              rw [okL_yes HWR.out, HZ.out] at hX
              obtain rfl : 0 = mX := hX.len
              have B_1 := below_chain B_0 hb B_0.size
              clear hX hR B_0 hb
              go_wp2_with fail
              refine (law_known _).mono ?_
              rintro e u2 ⟨rfl, hb⟩
              have B_2 := below_chain B_1 hb B_1.size
              clear B_1 hb
              go_wp2_with fail
              go_ret
              exact ⟨rfl, B_2⟩
        · have HV := Lib.hid h
          clear h
          have w_0 := hA
          have B_0 := Below.refl w.heap.size w
          go_enter Tryd.func6, Tryd.ntmps6
          go_wp2_with (first | (go_at_call 20; refine (ref_valid_is HV.out _ _ _ _ w_0).mono ?_; rintro e w' ⟨rfl, rfl⟩))
          refine (law_known _).mono ?_
          rintro e u1 ⟨rfl, hb⟩
          have B_1 := below_chain B_0 hb B_0.size
          clear B_0 hb
          go_wp2_with fail
          go_ret
          exact ⟨rfl, B_1⟩
      · have HV := Lib.hid h
        clear h
        have w_0 := hA
        have B_0 := Below.refl w.heap.size w
        go_enter Tryd.func6, Tryd.ntmps6
        go_wp2_with (first | (go_at_call 20; refine (ref_valid_is HV.out _ _ _ _ w_0).mono ?_; rintro e w' ⟨rfl, rfl⟩))
        refine (law_known _).mono ?_
        rintro e u1 ⟨rfl, hb⟩
        have B_1 := below_chain B_0 hb B_0.size
        clear B_0 hb
        go_wp2_with fail
        go_ret
        exact ⟨rfl, B_1⟩
  · have HV : Hid (validB K L = false) := by unfold Hid; simpa using h
    clear h
    have w_0 := hA
    have B_0 := Below.refl w.heap.size w
    go_enter Tryd.func6, Tryd.ntmps6
    go_wp2_with (first | (go_at_call 20; refine (ref_valid_is HV.out _ _ _ _ w_0).mono ?_; rintro e w' ⟨rfl, rfl⟩))
    refine (law_known _).mono ?_
    rintro e u1 ⟨rfl, hb⟩
    have B_1 := below_chain B_0 hb B_0.size
    clear B_0 hb
    go_wp2_with fail
    go_ret
    exact ⟨rfl, B_1⟩
end Go.Proofs.YtnlggiimgihmcaaDoor
