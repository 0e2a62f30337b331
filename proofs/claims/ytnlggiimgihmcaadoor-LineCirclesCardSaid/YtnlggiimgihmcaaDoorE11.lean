/-
  Walk: LineCircles returns true. Conditions: the numbers fit an int.
-/
import Derived.Test.YtnlggiimgihmcaaDoorE9
namespace Go.Proofs.YtnlggiimgihmcaaDoor
open Go.RowKit
theorem circ_valid {a b K : Int} (h0 : 0 ≤ a) (hab : a < b) (hb : b ≤ K) (hK : K ≤ 40) : validB K [a, b] = true := by
  refine validB_iff.2 ⟨by omega, hK, wordB_iff.2 ⟨by simp, by simp, fun x hx => ?_⟩, fun x hx => ?_⟩
  all_goals
    simp at hx
    omega
theorem circ_lat {a b : Int} (hab : a < b) : ∀ i j, i < 2 → j < 2 → i ≠ j → lat [a, b] i ≠ lat [a, b] j
  | 0, 0, _, _, h => absurd rfl h
  | 0, 1, _, _, _ => by show a ≠ b; omega
  | 1, 0, _, _, _ => by show b ≠ a; omega
  | 1, 1, _, _, h => absurd rfl h
  | _ + 2, _, h, _, _ => by omega
  | _, _ + 2, _, h, _ => by omega
theorem circ_rank {a b : Int} (hab : a < b) {i : Nat} (hi : i < 2) : ∀ m, m ≤ 2 → rankTo [a, b] i m = 1
  | 0, _ => rfl
  | m + 1, hm => by
    rw [rankTo, circ_rank hab hi m (by omega), if_neg fun h => circ_lat hab i m hi (by omega) h.1 h.2.1]
theorem circ_ranks {a b : Int} (hab : a < b) : ranksL [a, b] = [1, 1] := by
  have h0 := circ_rank hab (show 0 < 2 by omega) 2 (Nat.le_refl _)
  have h1 := circ_rank hab (show 1 < 2 by omega) 2 (Nat.le_refl _)
  show [((rankTo [a, b] 0 2 : Nat) : Int), ((rankTo [a, b] 1 2 : Nat) : Int)] = [1, 1]
  rw [h0, h1]
  rfl
theorem circ_errR {a b : Int} (h0 : 0 ≤ a) (hab : a < b) (hb : b ≤ 40) : errR [a, b] = 0 := by
  have hw := validB_word (circ_valid h0 hab hb (Int.le_refl _))
  have hne : NoneTo (eqNext [a, b]) 2 := fun i hi => by
    match i, hi with
    | 0, _ =>
      unfold eqNext
      simp; omega
    | 1, _ =>
      unfold eqNext
      simp; omega
  have hr : redB [a, b] = true := by
    unfold redB pairI
    rw [hw, show [a, b].length = 2 from rfl, firstI_none hne]
    rfl
  have hk : RanksOk [a, b] := by
    refine ⟨fun i j hi hj hij he => absurd he (circ_lat hab i j hi hj hij), fun i j hij hi h => circ_lat hab i j hi (by simp at hi; omega) (by omega) h.1, fun i j hij hj hp => ?_⟩
    simp at hj
    omega
  unfold errR
  rw [if_pos (errW_of hw), if_pos hr, if_pos hk]
theorem circ_wind {a b : Int} (f : Int) : windI [a, b] f = (if a < f then 1 else 0) + (if b < f then -1 else 0) := by
  rw [windI_wl]
  simp [wl]
theorem errC_bad {i j : Int} (h : ¬(1 ≤ i ∧ i ≤ j ∧ j ≤ 40)) : errC i j = 2 := if_neg h
theorem errC_ok {i j : Int} (h1 : 1 ≤ i) (h2 : i ≤ j) (h3 : j ≤ 40) : errC i j = 0 := if_pos ⟨h1, h2, h3⟩
set_option maxHeartbeats 3200000 in
set_option maxRecDepth 100000 in
theorem lineCircles_any (i j K : Int) (w : World) (hi : I64 i) (hj : I64 j) (_ : I64 K) :
    Calls Tryd.prog 10 #[.int .i64 i, .int .i64 j, .int .i64 K] w fun e w' => e = .returned (.bool true) ∧ Below w.heap.size w w' := by
  have HI := Lib.hid hi
  have HJ := Lib.hid hj
  obtain ⟨hi1, hi2⟩ := hi
  obtain ⟨hj1, hj2⟩ := hj
  by_cases h1 : 1 ≤ i
  · by_cases h2 : i ≤ j
    · by_cases h3 : j ≤ 40
      · by_cases h4 : j ≤ K
        · by_cases h5 : K ≤ 40
          · obtain ⟨N, rfl⟩ : ∃ N : Nat, K = N := ⟨K.toNat, by omega⟩
            have HF := Lib.hid (errF_of (circ_valid (show 0 ≤ i - 1 by omega) (show i - 1 < j by omega) h4 h5))
            have HR := Lib.hid (circ_errR (show 0 ≤ i - 1 by omega) (show i - 1 < j by omega) h3)
            have HK := Lib.hid (circ_ranks (show i - 1 < j by omega))
            have HC := Lib.hid (errC_ok h1 h2 h3)
            have B_0 := Below.refl w.heap.size w
            go_enter Tryd.func10, Tryd.ntmps10
            go_wp2_with fail
            refine (line_Circle _ _ _ HI.out HJ.out).mono ?_
            intro e u1 hg
            obtain ⟨X1, m1, c1, rfl, hX, hb⟩ := gives_ok3 hg HC.out
            have c_1 := hX.ints
            have cc := hX.cap
            have B_1 := below_chain B_0 hb B_0.size
            clear  B_0 hb
            clear hg hX
            go_wp2_with fail
            refine (ref_equal _ _ _ _ _ _ _ _ _ (c_1.alloc _) (mk u1 [i - 1, j] 2 (by intro x hx; simp at hx; unfold I64; omega) (by simp) rfl)).mono ?_
            rintro e u2 ⟨rfl, hd⟩
            rw [beq_self_eq_true]
            have c_2 := (c_1.alloc (.cells (([i - 1, j] : List Int).map (Value.int .i64)).toArray 3)).drawn hd
            have B_2 := (B_1.alloc B_1.size (.cells (([i - 1, j] : List Int).map (Value.int .i64)).toArray 3)).trans (hd.below _)
            clear c_1 B_1 hd
            go_wp2_with fail
            refine (line_Winding_nat _ _ _ _ _ _ c_2).mono ?_
            intro e u3 hg
            obtain ⟨X3, m3, c3, rfl, hX, hb⟩ := gives_ok3 hg HF.out
            obtain rfl : N = m3 := by rw [← hX.len]; exact (windsL_len _ _).symm
            have x_3 := hX.ints
            have xc := hX.cap
            have c_3 := c_2.below hb
            have B_3 := below_chain B_2 hb B_2.size
            clear c_2 B_2 hb
            clear hg hX
            go_wp2_with fail
            refine (line_Ranks _ _ _ _ _ c_3).mono ?_
            intro e u4 hg
            obtain ⟨X4, m4, c4, rfl, hX, hb⟩ := gives_ok3 hg HR.out
            rw [HK.out] at hX
            obtain rfl : 2 = m4 := hX.len
            have r_4 := hX.ints
            have rc := hX.cap
            have c_4 := c_3.below hb
            have x_4 := x_3.below hb
            have B_4 := below_chain B_3 hb B_3.size
            clear c_3 x_3 B_3 hb
            clear hg hX
            clear c_4
            go_wp2_with fail
            refine (ref_equal _ _ _ _ _ _ _ _ _ (r_4.alloc _) (mk u4 [1, 1] 2 (by intro x hx; simp at hx; unfold I64; omega) (by simp) rfl)).mono ?_
            rintro e u5 ⟨rfl, hd⟩
            rw [beq_self_eq_true]
            have x_5 := (x_4.alloc (.cells (([1, 1] : List Int).map (Value.int .i64)).toArray 3)).drawn hd
            have B_5 := (B_4.alloc B_4.size (.cells (([1, 1] : List Int).map (Value.int .i64)).toArray 3)).trans (hd.below _)
            clear x_4 r_4 B_4 hd
            go_wp2_with fail
            go_loop [13] (fun f => ∃ k : Nat, k ≤ N ∧ f = .int .i64 ((k : Int) + 1)) (fun f => (N + 1) - (intOf f).toNat)
            case atStart => exact ⟨0, Nat.zero_le _, by go_num⟩
            case round =>
              obtain ⟨k, hk, rfl⟩ := hrel
              by_cases hlt : k < N
              · obtain ⟨ad, z, rfl, hz, hz1, hz2, hc⟩ := x_5.at_ hlt
                have hz' := hz.out
                rw [windsL_get hlt, circ_wind] at hz'
                have hzz := (Option.some.inj hz').symm
                by_cases g1 : i ≤ (k : Int) + 1
                · by_cases g2 : (k : Int) + 1 ≤ j
                  · rw [if_pos (by omega), if_neg (by omega)] at hzz
                    subst hzz
                    clear hz hz' hz1 hz2
                    go_wp2_with fail
                    go_round
                    case rel => exact ⟨k + 1, by omega, by go_num⟩
                    case measure => simp [intOf]; omega
                  · rw [if_pos (by omega), if_pos (by omega)] at hzz
                    subst hzz
                    clear hz hz' hz1 hz2
                    go_wp2_with fail
                    go_round
                    case rel => exact ⟨k + 1, by omega, by go_num⟩
                    case measure => simp [intOf]; omega
                · rw [if_neg (by omega), if_neg (by omega)] at hzz
                  subst hzz
                  clear hz hz' hz1 hz2
                  go_wp2_with fail
                  go_round
                  case rel => exact ⟨k + 1, by omega, by go_num⟩
                  case measure => simp [intOf]; omega
              · obtain rfl : k = N := by omega
                clear x_5
                go_wp2_with fail
                refine (law_known _).mono ?_
                rintro e u6 ⟨rfl, hb⟩
                have B_6 := below_chain B_5 hb B_5.size
                clear B_5 hb
                go_wp2_with fail
                go_ret
                exact ⟨rfl, B_6⟩
          · have h5' : 40 < K := by omega
            clear h5
            have HC := Lib.hid (errC_ok h1 h2 h3)
            have B_0 := Below.refl w.heap.size w
            go_enter Tryd.func10, Tryd.ntmps10
            go_wp2_with fail
            refine (line_Circle _ _ _ HI.out HJ.out).mono ?_
            intro e u1 hg
            obtain ⟨X1, m1, c1, rfl, hX, hb⟩ := gives_ok3 hg HC.out
            have c_1 := hX.ints
            have cc := hX.cap
            have B_1 := below_chain B_0 hb B_0.size
            clear  B_0 hb
            clear hg hX
            go_wp2_with fail
            refine (ref_equal _ _ _ _ _ _ _ _ _ (c_1.alloc _) (mk u1 [i - 1, j] 2 (by intro x hx; simp at hx; unfold I64; omega) (by simp) rfl)).mono ?_
            rintro e u2 ⟨rfl, hd⟩
            rw [beq_self_eq_true]
            have c_2 := (c_1.alloc (.cells (([i - 1, j] : List Int).map (Value.int .i64)).toArray 3)).drawn hd
            have B_2 := (B_1.alloc B_1.size (.cells (([i - 1, j] : List Int).map (Value.int .i64)).toArray 3)).trans (hd.below _)
            clear c_1 B_1 hd
            clear c_2
            go_wp2_with fail
            refine (law_known _).mono ?_
            rintro e u3 ⟨rfl, hb⟩
            have B_3 := below_chain B_2 hb B_2.size
            clear B_2 hb
            go_wp2_with fail
            go_ret
            exact ⟨rfl, B_3⟩
        · have h4' : K < j := by omega
          clear h4
          have HC := Lib.hid (errC_ok h1 h2 h3)
          have B_0 := Below.refl w.heap.size w
          go_enter Tryd.func10, Tryd.ntmps10
          go_wp2_with fail
          refine (line_Circle _ _ _ HI.out HJ.out).mono ?_
          intro e u1 hg
          obtain ⟨X1, m1, c1, rfl, hX, hb⟩ := gives_ok3 hg HC.out
          have c_1 := hX.ints
          have cc := hX.cap
          have B_1 := below_chain B_0 hb B_0.size
          clear  B_0 hb
          clear hg hX
          go_wp2_with fail
          refine (ref_equal _ _ _ _ _ _ _ _ _ (c_1.alloc _) (mk u1 [i - 1, j] 2 (by intro x hx; simp at hx; unfold I64; omega) (by simp) rfl)).mono ?_
          rintro e u2 ⟨rfl, hd⟩
          rw [beq_self_eq_true]
          have c_2 := (c_1.alloc (.cells (([i - 1, j] : List Int).map (Value.int .i64)).toArray 3)).drawn hd
          have B_2 := (B_1.alloc B_1.size (.cells (([i - 1, j] : List Int).map (Value.int .i64)).toArray 3)).trans (hd.below _)
          clear c_1 B_1 hd
          clear c_2
          go_wp2_with fail
          refine (law_known _).mono ?_
          rintro e u3 ⟨rfl, hb⟩
          have B_3 := below_chain B_2 hb B_2.size
          clear B_2 hb
          go_wp2_with fail
          go_ret
          exact ⟨rfl, B_3⟩
      · have h3' : 40 < j := by omega
        clear h3
        have HC := Lib.hid (errC_bad (i := i) (j := j) (by omega))
        have B_0 := Below.refl w.heap.size w
        go_enter Tryd.func10, Tryd.ntmps10
        go_wp2_with fail
        refine (line_Circle _ _ _ HI.out HJ.out).mono ?_
        intro e u1 hg
        rw [HC.out] at hg
        obtain ⟨X1, c1, rfl, hb⟩ := gives_no hg (by decide)
        have B_1 := below_chain B_0 hb B_0.size
        clear  B_0 hb
        clear hg
        go_wp2_with fail
        refine (law_known _).mono ?_
        rintro e u2 ⟨rfl, hb⟩
        have B_2 := below_chain B_1 hb B_1.size
        clear B_1 hb
        go_wp2_with fail
        go_ret
        exact ⟨rfl, B_2⟩
    · have h2' : j < i := by omega
      clear h2
      have HC := Lib.hid (errC_bad (i := i) (j := j) (by omega))
      have B_0 := Below.refl w.heap.size w
      go_enter Tryd.func10, Tryd.ntmps10
      go_wp2_with fail
      refine (line_Circle _ _ _ HI.out HJ.out).mono ?_
      intro e u1 hg
      rw [HC.out] at hg
      obtain ⟨X1, c1, rfl, hb⟩ := gives_no hg (by decide)
      have B_1 := below_chain B_0 hb B_0.size
      clear  B_0 hb
      clear hg
      go_wp2_with fail
      refine (law_known _).mono ?_
      rintro e u2 ⟨rfl, hb⟩
      have B_2 := below_chain B_1 hb B_1.size
      clear B_1 hb
      go_wp2_with fail
      go_ret
      exact ⟨rfl, B_2⟩
  · have h1' : i < 1 := by omega
    clear h1
    have HC := Lib.hid (errC_bad (i := i) (j := j) (by omega))
    have B_0 := Below.refl w.heap.size w
    go_enter Tryd.func10, Tryd.ntmps10
    go_wp2_with fail
    refine (line_Circle _ _ _ HI.out HJ.out).mono ?_
    intro e u1 hg
    rw [HC.out] at hg
    obtain ⟨X1, c1, rfl, hb⟩ := gives_no hg (by decide)
    have B_1 := below_chain B_0 hb B_0.size
    clear  B_0 hb
    clear hg
    go_wp2_with fail
    refine (law_known _).mono ?_
    rintro e u2 ⟨rfl, hb⟩
    have B_2 := below_chain B_1 hb B_1.size
    clear B_1 hb
    go_wp2_with fail
    go_ret
    exact ⟨rfl, B_2⟩
end Go.Proofs.YtnlggiimgihmcaaDoor
