/-
  Walk: LineDrawn returns true. Conditions: the slice reads.
-/
import Derived.Test.YtnlggiimgihmcaaDoorE8
import Derived.Test.YtnlggiimgihmcaaDoorE12
import Derived.Test.YtnlggiimgihmcaaDoorP14
namespace Go.Proofs.YtnlggiimgihmcaaDoor
open Go.RowKit
set_option maxHeartbeats 3200000 in
set_option maxRecDepth 100000 in
theorem lineDrawn_any (K : Int) (A : Option Addr) (n c : Nat) (L : List Int) (w : World) (_ : I64 K) (hA : Ints w A n L) (hcap : n ≤ c) :
    Calls Tryd.prog 11 #[.int .i64 K, .slice A n c] w fun e w' => e = .returned (.bool true) ∧ Below w.heap.size w w' := by
  have hle := hA.le
  by_cases h60 : 60 < n
  · have w_0 := hA
    have B_0 := Below.refl w.heap.size w
    go_enter Tryd.func11, Tryd.ntmps11
    go_wp2_with fail
    refine (law_known _).mono ?_
    rintro e u1 ⟨rfl, hb⟩
    have B_1 := below_chain B_0 hb B_0.size
    clear B_0 hb
    go_wp2_with fail
    go_ret
    exact ⟨rfl, B_1⟩
  · by_cases hv : validB K L = true
    · have HV := Lib.hid hv
      cases hr : redB L with
      | false =>
        have HR := Lib.hid hr
        clear hv hr
        have w_0 := hA
        have B_0 := Below.refl w.heap.size w
        go_enter Tryd.func11, Tryd.ntmps11
        go_wp2_with (first | (go_at_call 20; refine (ref_valid_is HV.out _ _ _ _ w_0).mono ?_; rintro e w' ⟨rfl, rfl⟩))
        refine (ref_reduced_is HR.out _ _ _ _ w_0).mono ?_
        rintro e u1 ⟨rfl, hd⟩
        have w_1 := w_0.drawn hd
        have B_1 := B_0.trans (hd.below _)
        clear w_0 B_0 hd
        go_wp2_with fail
        refine (law_known _).mono ?_
        rintro e u2 ⟨rfl, hb⟩
        have B_2 := below_chain B_1 hb B_1.size
        clear B_1 hb
        go_wp2_with fail
        go_ret
        exact ⟨rfl, B_2⟩
      | true =>
        have HR := Lib.hid hr
        have HW := Lib.hid (errW_of (validB_word hv))
        have HF := Lib.hid (errF_of hv)
        have hev := validB_even hv
        have hrn := redB_normalL (validB_word hv)
        have hrm := redB_mirror hv hr
        have hrt := redB_turn hr
        obtain ⟨hK1, hK2⟩ := k_of_validB hv
        obtain ⟨N, rfl⟩ : ∃ N : Nat, K = N := ⟨K.toNat, by omega⟩
        by_cases hd : Drawable L
        · have R0 := Lib.hid (errR_drawable hr hd)
          have R1 := Lib.hid (errR_drawable hrn ((drawable_normal hr).2 hd))
          have R2 := Lib.hid (errR_drawable hrm ((drawable_mirror_iff _).2 hd))
          have R3 := Lib.hid (errR_drawable hrt ((drawable_turn hev).2 hd))
          have hD := ranks_drawn ((ranksOk_iff hr).2 hd) hr
          have hwz : Hid (∀ f, windI L f = 0 ∨ windI L f = sgI (posN L (ranksL L) 0)) := fun f => wind_drawn hD hr f
          have hsg : sgI (posN L (ranksL L) 0) = 1 ∨ sgI (posN L (ranksL L) 0) = -1 := by unfold sgI; omega
          obtain ⟨sg, hsgd⟩ : ∃ sg, sgI (posN L (ranksL L) 0) = sg := ⟨_, rfl⟩
          rw [hsgd] at hwz hsg
          have HD := Lib.hid hD
          clear hv hr hev hrn hrm hrt hd hD hsgd
          have w_0 := hA
          have B_0 := Below.refl w.heap.size w
          go_enter Tryd.func11, Tryd.ntmps11
          go_wp2_with (first | (go_at_call 20; refine (ref_valid_is HV.out _ _ _ _ w_0).mono ?_; rintro e w' ⟨rfl, rfl⟩))
          refine (ref_reduced_is HR.out _ _ _ _ w_0).mono ?_
          rintro e u1 ⟨rfl, hd⟩
          have w_1 := w_0.drawn hd
          have B_1 := B_0.trans (hd.below _)
          clear w_0 B_0 hd
          go_wp2_with fail
          refine (line_Ranks _ _ _ _ _ w_1).mono ?_
          intro e u2 hg
          obtain ⟨X2, m2, c2, rfl, hX, hb⟩ := gives_ok3 hg R0.out
          have x_2 := hX.ints
          have xc := hX.cap
          have w_2 := w_1.below hb
          have B_2 := below_chain B_1 hb B_1.size
          clear w_1 B_1 hb
          clear hg hX
          go_wp2_with fail
          refine (law_normal _ _ _ _ _ w_2).mono ?_
          rintro e u3 ⟨X3, m3, c3, rfl, hX, hb⟩
          rw [okL_yes HW.out] at hX
          have nw_3 := hX.ints
          have nwc := hX.cap
          have w_3 := w_2.below hb
          have x_3 := x_2.below hb
          have B_3 := below_chain B_2 hb B_2.size
          clear w_2 x_2 B_2 hb
          clear hX
          go_wp2_with fail
          refine (line_Ranks _ _ _ _ _ nw_3).mono ?_
          intro e u4 hg
          obtain ⟨X4, m4, c4, rfl, hX, hb⟩ := gives_ok3 hg R1.out
          have y_4 := hX.ints
          have yc := hX.cap
          have w_4 := w_3.below hb
          have x_4 := x_3.below hb
          have nw_4 := nw_3.below hb
          have B_4 := below_chain B_3 hb B_3.size
          clear w_3 x_3 nw_3 B_3 hb
          clear hg hX
          clear nw_4 y_4
          go_wp2_with fail
          refine (line_Mirror _ _ _ _ _ _ w_4).mono ?_
          intro e u5 hg
          obtain ⟨X5, m5, c5, rfl, hX, hb⟩ := gives_ok3 hg HF.out
          have m_5 := hX.ints
          have mc := hX.cap
          have w_5 := w_4.below hb
          have x_5 := x_4.below hb
          have B_5 := below_chain B_4 hb B_4.size
          clear w_4 x_4 B_4 hb
          clear hg hX
          go_wp2_with fail
          refine (line_Ranks _ _ _ _ _ m_5).mono ?_
          intro e u6 hg
          obtain ⟨X6, m6, c6, rfl, hX, hb⟩ := gives_ok3 hg R2.out
          have y_6 := hX.ints
          have yc := hX.cap
          have w_6 := w_5.below hb
          have x_6 := x_5.below hb
          have m_6 := m_5.below hb
          have B_6 := below_chain B_5 hb B_5.size
          clear w_5 x_5 m_5 B_5 hb
          clear hg hX
          clear m_6 y_6
          go_wp2_with fail
          refine (line_Turn _ _ _ _ _ w_6 hcap).mono ?_
          intro e u7 hg
          obtain ⟨X7, m7, c7, rfl, hX, hb⟩ := gives_ok3 hg HW.out
          have t_7 := hX.ints
          have tc := hX.cap
          have w_7 := w_6.below hb
          have x_7 := x_6.below hb
          have B_7 := below_chain B_6 hb B_6.size
          clear w_6 x_6 B_6 hb
          clear hg hX
          go_wp2_with fail
          refine (line_Ranks _ _ _ _ _ t_7).mono ?_
          intro e u8 hg
          obtain ⟨X8, m8, c8, rfl, hX, hb⟩ := gives_ok3 hg R3.out
          have y_8 := hX.ints
          have yc := hX.cap
          have w_8 := w_7.below hb
          have x_8 := x_7.below hb
          have t_8 := t_7.below hb
          have B_8 := below_chain B_7 hb B_7.size
          clear w_7 x_7 t_7 B_7 hb
          clear hg hX
          clear t_8 y_8
          go_wp2_with fail
          refine (ref_drawn _ _ _ _ _ _ _ _ _ w_8 x_8).mono ?_
          rintro e u9 ⟨b, rfl, hb, hd⟩
          obtain rfl : b = true := hb.2 HD.out
          clear hb
          have w_9 := w_8.drawn hd
          have x_9 := x_8.drawn hd
          have B_9 := B_8.trans (hd.below _)
          clear w_8 x_8 B_8 hd
          clear x_9
          go_wp2_with fail
          rcases hsg with rfl | rfl
          · go_loop [17, 18, 19] (fun p m i => ∃ (k : Nat) (b : Bool), k ≤ N ∧ i = .int .i64 ((k : Int) + 1) ∧ p = .bool b ∧ m = .bool false) (fun _ _ i => (N + 1) - (intOf i).toNat)
            case atStart => exact ⟨0, false, Nat.zero_le _, by go_num, rfl, rfl⟩
            case round =>
              obtain ⟨k, b, hk, rfl, rfl, rfl⟩ := hrel
              by_cases hlt : k < N
              · rcases hwz.out ((k : Int) + 1) with hz | hz
                · have HZ := Lib.hid hz
                  clear hz
                  cases b with
                  | false =>
                    go_wp2_with (first | (go_at_call 34; refine (ref_winding_is HZ.out _ _ _ _ w_9).mono ?_; rintro e w' ⟨rfl, rfl⟩))
                    go_round
                    case rel => exact ⟨k + 1, false, by omega, by go_num, rfl, rfl⟩
                    case measure => simp [intOf]; omega
                  | true =>
                    go_wp2_with (first | (go_at_call 34; refine (ref_winding_is HZ.out _ _ _ _ w_9).mono ?_; rintro e w' ⟨rfl, rfl⟩))
                    go_round
                    case rel => exact ⟨k + 1, true, by omega, by go_num, rfl, rfl⟩
                    case measure => simp [intOf]; omega
                · have HZ := Lib.hid hz
                  clear hz
                  cases b with
                  | false =>
                    go_wp2_with (first | (go_at_call 34; refine (ref_winding_is HZ.out _ _ _ _ w_9).mono ?_; rintro e w' ⟨rfl, rfl⟩))
                    go_round
                    case rel => exact ⟨k + 1, true, by omega, by go_num, rfl, rfl⟩
                    case measure => simp [intOf]; omega
                  | true =>
                    go_wp2_with (first | (go_at_call 34; refine (ref_winding_is HZ.out _ _ _ _ w_9).mono ?_; rintro e w' ⟨rfl, rfl⟩))
                    go_round
                    case rel => exact ⟨k + 1, true, by omega, by go_num, rfl, rfl⟩
                    case measure => simp [intOf]; omega
              · cases b with
                | false =>
                  go_wp2_with fail
                  refine (law_known _).mono ?_
                  rintro e u ⟨rfl, hb⟩
                  have B := below_chain B_9 hb B_9.size
                  clear B_9 hb w_9
                  go_wp2_with fail
                  go_ret
                  exact ⟨rfl, B⟩
                | true =>
                  go_wp2_with fail
                  refine (law_known _).mono ?_
                  rintro e u ⟨rfl, hb⟩
                  have B := below_chain B_9 hb B_9.size
                  clear B_9 hb w_9
                  go_wp2_with fail
                  go_ret
                  exact ⟨rfl, B⟩
          · go_loop [17, 18, 19] (fun p m i => ∃ (k : Nat) (b : Bool), k ≤ N ∧ i = .int .i64 ((k : Int) + 1) ∧ p = .bool false ∧ m = .bool b) (fun _ _ i => (N + 1) - (intOf i).toNat)
            case atStart => exact ⟨0, false, Nat.zero_le _, by go_num, rfl, rfl⟩
            case round =>
              obtain ⟨k, b, hk, rfl, rfl, rfl⟩ := hrel
              by_cases hlt : k < N
              · rcases hwz.out ((k : Int) + 1) with hz | hz
                · have HZ := Lib.hid hz
                  clear hz
                  cases b with
                  | false =>
                    go_wp2_with (first | (go_at_call 34; refine (ref_winding_is HZ.out _ _ _ _ w_9).mono ?_; rintro e w' ⟨rfl, rfl⟩))
                    go_round
                    case rel => exact ⟨k + 1, false, by omega, by go_num, rfl, rfl⟩
                    case measure => simp [intOf]; omega
                  | true =>
                    go_wp2_with (first | (go_at_call 34; refine (ref_winding_is HZ.out _ _ _ _ w_9).mono ?_; rintro e w' ⟨rfl, rfl⟩))
                    go_round
                    case rel => exact ⟨k + 1, true, by omega, by go_num, rfl, rfl⟩
                    case measure => simp [intOf]; omega
                · have HZ := Lib.hid hz
                  clear hz
                  cases b with
                  | false =>
                    go_wp2_with (first | (go_at_call 34; refine (ref_winding_is HZ.out _ _ _ _ w_9).mono ?_; rintro e w' ⟨rfl, rfl⟩))
                    go_round
                    case rel => exact ⟨k + 1, true, by omega, by go_num, rfl, rfl⟩
                    case measure => simp [intOf]; omega
                  | true =>
                    go_wp2_with (first | (go_at_call 34; refine (ref_winding_is HZ.out _ _ _ _ w_9).mono ?_; rintro e w' ⟨rfl, rfl⟩))
                    go_round
                    case rel => exact ⟨k + 1, true, by omega, by go_num, rfl, rfl⟩
                    case measure => simp [intOf]; omega
              · cases b with
                | false =>
                  go_wp2_with fail
                  refine (law_known _).mono ?_
                  rintro e u ⟨rfl, hb⟩
                  have B := below_chain B_9 hb B_9.size
                  clear B_9 hb w_9
                  go_wp2_with fail
                  go_ret
                  exact ⟨rfl, B⟩
                | true =>
                  go_wp2_with fail
                  refine (law_known _).mono ?_
                  rintro e u ⟨rfl, hb⟩
                  have B := below_chain B_9 hb B_9.size
                  clear B_9 hb w_9
                  go_wp2_with fail
                  go_ret
                  exact ⟨rfl, B⟩
        · have R0 := Lib.hid (errR_not hr hd)
          have R1 := Lib.hid (errR_not hrn (fun h => hd ((drawable_normal hr).1 h)))
          have R2 := Lib.hid (errR_not hrm (fun h => hd ((drawable_mirror_iff _).1 h)))
          have R3 := Lib.hid (errR_not hrt (fun h => hd ((drawable_turn hev).1 h)))
          clear hv hr hev hrn hrm hrt hd
          have w_0 := hA
          have B_0 := Below.refl w.heap.size w
          go_enter Tryd.func11, Tryd.ntmps11
          go_wp2_with (first | (go_at_call 20; refine (ref_valid_is HV.out _ _ _ _ w_0).mono ?_; rintro e w' ⟨rfl, rfl⟩))
          refine (ref_reduced_is HR.out _ _ _ _ w_0).mono ?_
          rintro e u1 ⟨rfl, hd⟩
          have w_1 := w_0.drawn hd
          have B_1 := B_0.trans (hd.below _)
          clear w_0 B_0 hd
          go_wp2_with fail
          refine (line_Ranks _ _ _ _ _ w_1).mono ?_
          intro e u2 hg
          rw [R0.out] at hg
          obtain ⟨X2, c2, rfl, hb⟩ := gives_no hg (by decide)
          have w_2 := w_1.below hb
          have B_2 := below_chain B_1 hb B_1.size
          clear w_1 B_1 hb
          clear hg
          go_wp2_with fail
          refine (law_normal _ _ _ _ _ w_2).mono ?_
          rintro e u3 ⟨X3, m3, c3, rfl, hX, hb⟩
          rw [okL_yes HW.out] at hX
          have nw_3 := hX.ints
          have nwc := hX.cap
          have w_3 := w_2.below hb
          have B_3 := below_chain B_2 hb B_2.size
          clear w_2 B_2 hb
          clear hX
          go_wp2_with fail
          refine (line_Ranks _ _ _ _ _ nw_3).mono ?_
          intro e u4 hg
          rw [R1.out] at hg
          obtain ⟨X4, c4, rfl, hb⟩ := gives_no hg (by decide)
          have w_4 := w_3.below hb
          have nw_4 := nw_3.below hb
          have B_4 := below_chain B_3 hb B_3.size
          clear w_3 nw_3 B_3 hb
          clear hg
          clear nw_4
          go_wp2_with fail
          refine (line_Mirror _ _ _ _ _ _ w_4).mono ?_
          intro e u5 hg
          obtain ⟨X5, m5, c5, rfl, hX, hb⟩ := gives_ok3 hg HF.out
          have m_5 := hX.ints
          have mc := hX.cap
          have w_5 := w_4.below hb
          have B_5 := below_chain B_4 hb B_4.size
          clear w_4 B_4 hb
          clear hg hX
          go_wp2_with fail
          refine (line_Ranks _ _ _ _ _ m_5).mono ?_
          intro e u6 hg
          rw [R2.out] at hg
          obtain ⟨X6, c6, rfl, hb⟩ := gives_no hg (by decide)
          have w_6 := w_5.below hb
          have m_6 := m_5.below hb
          have B_6 := below_chain B_5 hb B_5.size
          clear w_5 m_5 B_5 hb
          clear hg
          clear m_6
          go_wp2_with fail
          refine (line_Turn _ _ _ _ _ w_6 hcap).mono ?_
          intro e u7 hg
          obtain ⟨X7, m7, c7, rfl, hX, hb⟩ := gives_ok3 hg HW.out
          have t_7 := hX.ints
          have tc := hX.cap
          have w_7 := w_6.below hb
          have B_7 := below_chain B_6 hb B_6.size
          clear w_6 B_6 hb
          clear hg hX
          go_wp2_with fail
          refine (line_Ranks _ _ _ _ _ t_7).mono ?_
          intro e u8 hg
          rw [R3.out] at hg
          obtain ⟨X8, c8, rfl, hb⟩ := gives_no hg (by decide)
          have w_8 := w_7.below hb
          have t_8 := t_7.below hb
          have B_8 := below_chain B_7 hb B_7.size
          clear w_7 t_7 B_7 hb
          clear hg
          clear t_8 w_8
          go_wp2_with fail
          refine (law_known _).mono ?_
          rintro e u9 ⟨rfl, hb⟩
          have B_9 := below_chain B_8 hb B_8.size
          clear B_8 hb
          go_wp2_with fail
          go_ret
          exact ⟨rfl, B_9⟩
    · have HV : Hid (validB K L = false) := by unfold Hid; simpa using hv
      clear hv
      have w_0 := hA
      have B_0 := Below.refl w.heap.size w
      go_enter Tryd.func11, Tryd.ntmps11
      go_wp2_with (first | (go_at_call 20; refine (ref_valid_is HV.out _ _ _ _ w_0).mono ?_; rintro e w' ⟨rfl, rfl⟩))
      refine (law_known _).mono ?_
      rintro e u1 ⟨rfl, hb⟩
      have B_1 := below_chain B_0 hb B_0.size
      clear B_0 hb
      go_wp2_with fail
      go_ret
      exact ⟨rfl, B_1⟩
end Go.Proofs.YtnlggiimgihmcaaDoor
