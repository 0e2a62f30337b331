/-
  Walk: LineKeeps returns true. Conditions: the slice reads.
-/
import Derived.Test.YtnlggiimgihmcaaDoorE8
namespace Go.Proofs.YtnlggiimgihmcaaDoor
open Go.RowKit
theorem windsL_len (L : List Int) (N : Nat) : (windsL L N).length = N := by simp [windsL]
theorem line_Winding_nat (N : Nat) (A : Option Addr) (n c : Nat) (L : List Int) (w : World) (hA : Ints w A n L) :
    Calls Tryd.prog 32 #[.int .i64 (N : Int), .slice A n c] w (Gives w (okL (errF N L) (windsL L N)) (errF N L)) := line_Winding N A n c L w hA
theorem line_Inside_nat (N : Nat) (A : Option Addr) (n c : Nat) (L : List Int) (w : World) (hA : Ints w A n L) :
    Calls Tryd.prog 33 #[.int .i64 (N : Int), .slice A n c] w (Gives w (okL (errF N L) (insTo L N)) (errF N L)) := line_Inside N A n c L w hA
set_option maxHeartbeats 3200000 in
set_option maxRecDepth 100000 in
theorem lineKeeps_any (K : Int) (A : Option Addr) (n c : Nat) (L : List Int) (w : World) (_ : I64 K) (hA : Ints w A n L) (_ : n ≤ c) :
    Calls Tryd.prog 9 #[.int .i64 K, .slice A n c] w fun e w' => e = .returned (.bool true) ∧ Below w.heap.size w w' := by
  by_cases h : validB K L = true
  · obtain ⟨hK1, hK2⟩ := k_of_validB h
    obtain ⟨N, rfl⟩ : ∃ N : Nat, K = N := ⟨K.toNat, by omega⟩
    have he := validB_even h
    have h400 : L.length ≤ 400 := (wordB_iff.1 (validB_word h)).2.1
    have HW := Lib.hid (errW_of (validB_word h))
    have HF := Lib.hid (errF_of h)
    have HFn := Lib.hid (errF_of (validB_normalL h))
    have HFr := Lib.hid (errF_of (validB_reverse h))
    have E1 : Hid ((insTo L N == insTo (normalL L) N) = true) := by unfold Hid; rw [insTo_eqv (eqv_normalL he) he]; exact beq_self_eq_true _
    have E2 : Hid ((windsL L.reverse N == (windsL L N).map (fun z => -z)) = true) := by unfold Hid; rw [windsL_rev he]; exact beq_self_eq_true _
    have E3 := Lib.hid (windsL_eqv (eqv_normalL he) he N)
    have H4 := Lib.hid h400
    have HV := Lib.hid h
    clear he h h400
    have w_0 := hA
    have B_0 := Below.refl w.heap.size w
    go_enter Tryd.func9, Tryd.ntmps9
    go_wp2_with (first | (go_at_call 20; refine (ref_valid_is HV.out _ _ _ _ w_0).mono ?_; rintro e w' ⟨rfl, rfl⟩))
    refine (line_Winding_nat _ _ _ _ _ _ w_0).mono ?_
    intro e u1 hg
    obtain ⟨X1, m1, c1, rfl, hX, hb⟩ := gives_ok3 hg HF.out
    obtain rfl : N = m1 := by rw [← hX.len]; exact (windsL_len _ _).symm
    have x_1 := hX.ints
    have xc := hX.cap
    have w_1 := w_0.below hb
    have B_1 := below_chain B_0 hb B_0.size
    clear w_0 B_0 hb
    clear hg hX
    go_wp2_with fail
    refine (law_normal _ _ _ _ _ w_1).mono ?_
    rintro e u2 ⟨X2, m2, c2, rfl, hX, hb⟩
    rw [okL_yes HW.out] at hX
    have nw_2 := hX.ints
    have nwc := hX.cap
    have w_2 := w_1.below hb
    have x_2 := x_1.below hb
    have B_2 := below_chain B_1 hb B_1.size
    clear w_1 x_1 B_1 hb
    clear hX
    go_wp2_with fail
    refine (line_Winding_nat _ _ _ _ _ _ nw_2).mono ?_
    intro e u3 hg
    obtain ⟨X3, m3, c3, rfl, hX, hb⟩ := gives_ok3 hg HFn.out
    obtain rfl : N = m3 := by rw [← hX.len]; exact (windsL_len _ _).symm
    have y_3 := hX.ints
    have yc := hX.cap
    have w_3 := w_2.below hb
    have x_3 := x_2.below hb
    have nw_3 := nw_2.below hb
    have B_3 := below_chain B_2 hb B_2.size
    clear w_2 x_2 nw_2 B_2 hb
    clear hg hX
    clear nw_3
    go_wp2_with fail
    refine (line_Reverse _ _ _ _ _ w_3).mono ?_
    intro e u4 hg
    obtain ⟨X4, m4, c4, rfl, hX, hb⟩ := gives_ok3 hg HW.out
    have r_4 := hX.ints
    have rc := hX.cap
    have w_4 := w_3.below hb
    have x_4 := x_3.below hb
    have y_4 := y_3.below hb
    have B_4 := below_chain B_3 hb B_3.size
    clear w_3 x_3 y_3 B_3 hb
    clear hg hX
    go_wp2_with fail
    refine (line_Winding_nat _ _ _ _ _ _ r_4).mono ?_
    intro e u5 hg
    obtain ⟨X5, m5, c5, rfl, hX, hb⟩ := gives_ok3 hg HFr.out
    obtain rfl : N = m5 := by rw [← hX.len]; exact (windsL_len _ _).symm
    have z_5 := hX.ints
    have zc := hX.cap
    have w_5 := w_4.below hb
    have x_5 := x_4.below hb
    have y_5 := y_4.below hb
    have r_5 := r_4.below hb
    have B_5 := below_chain B_4 hb B_4.size
    clear w_4 x_4 y_4 r_4 B_4 hb
    clear hg hX
    clear r_5
    go_wp2_with fail
    refine (line_Inside_nat _ _ _ _ _ _ w_5).mono ?_
    intro e u6 hg
    obtain ⟨X6, m6, c6, rfl, hX, hb⟩ := gives_ok3 hg HF.out
    have a_6 := hX.ints
    have ac := hX.cap
    have w_6 := w_5.below hb
    have x_6 := x_5.below hb
    have y_6 := y_5.below hb
    have z_6 := z_5.below hb
    have B_6 := below_chain B_5 hb B_5.size
    clear w_5 x_5 y_5 z_5 B_5 hb
    clear hg hX
    go_wp2_with fail
    refine (law_normal _ _ _ _ _ w_6).mono ?_
    rintro e u7 ⟨X7, m7, c7, rfl, hX, hb⟩
    rw [okL_yes HW.out] at hX
    have nv_7 := hX.ints
    have nvc := hX.cap
    have w_7 := w_6.below hb
    have x_7 := x_6.below hb
    have y_7 := y_6.below hb
    have z_7 := z_6.below hb
    have a_7 := a_6.below hb
    have B_7 := below_chain B_6 hb B_6.size
    clear w_6 x_6 y_6 z_6 a_6 B_6 hb
    clear hX
    go_wp2_with fail
    refine (line_Inside_nat _ _ _ _ _ _ nv_7).mono ?_
    intro e u8 hg
    obtain ⟨X8, m8, c8, rfl, hX, hb⟩ := gives_ok3 hg HFn.out
    have b_8 := hX.ints
    have bc := hX.cap
    have w_8 := w_7.below hb
    have x_8 := x_7.below hb
    have y_8 := y_7.below hb
    have z_8 := z_7.below hb
    have a_8 := a_7.below hb
    have nv_8 := nv_7.below hb
    have B_8 := below_chain B_7 hb B_7.size
    clear w_7 x_7 y_7 z_7 a_7 nv_7 B_7 hb
    clear hg hX
    clear nv_8 w_8
    go_wp2_with fail
    refine (ref_equal _ _ _ _ _ _ _ _ _ a_8 b_8).mono ?_
    rintro e u9 ⟨rfl, hd⟩
    rw [E1.out]
    have x_9 := x_8.drawn hd
    have y_9 := y_8.drawn hd
    have z_9 := z_8.drawn hd
    have a_9 := a_8.drawn hd
    have b_9 := b_8.drawn hd
    have B_9 := B_8.trans (hd.below _)
    clear x_8 y_8 z_8 a_8 b_8 B_8 hd
    clear a_9 b_9
    go_wp2_with fail
    go_loopw [17, 18] (fun v i wr => ∃ (k : Nat) (B : Option Addr) (d : Nat) (P : List Int), k ≤ N ∧ i = .int .i64 k ∧ v = .slice B k d ∧ Own wr u9.heap.size B k d P ∧ Below u9.heap.size u9 wr ∧ Hid (P = ((windsL L N).take k).map (fun z => -z))) (fun _ i _ => N - (intOf i).toNat)
    case atStart => exact ⟨0, none, 0, [], Nat.zero_le _, rfl, rfl, Own.nil _ _, Below.refl _ _, rfl⟩
    case round =>
      obtain ⟨k, B, d, P, hk, rfl, rfl, hown, hb, HP⟩ := hrel
      have x_r := x_9.below hb
      have hsz := hb.size
      by_cases hlt : k < N
      · obtain ⟨ad, z, rfl, hz, hz1, hz2, hc⟩ := x_r.at_ hlt
        have hzb : -400 ≤ z ∧ z ≤ 400 := by
          have h1 := hz.out
          rw [windsL_get hlt] at h1
          have h2 := wind_bd L ((k : Int) + 1) L.length
          have h3 := H4.out
          have h4 : windI L ((k : Int) + 1) = z := Option.some.inj h1
          unfold windI at h4
          omega
        obtain ⟨hz3, hz4⟩ := hzb
        go_wp2_with (at_builtin; refine app1n rfl _ _ rfl hown (-z) rfl rfl (by unfold I64; omega) (by omega) hsz ?_)
        intro B' d' w1 hown' hb' _ _
        have hbw := hb.trans hb'
        have HP' : Hid (P ++ [-z] = ((windsL L N).take (k + 1)).map (fun z => -z)) := by unfold Hid; rw [map_take_succ _ _ k z hz.out, HP.out]
        clear hown hb hb' hc HP
        go_wp2_with fail
        go_roundw
        case rel => exact ⟨k + 1, B', d', _, by omega, by go_num, rfl, hown', hbw, HP'⟩
        case measure => simp [intOf] <;> omega
      · obtain rfl : k = N := by omega
        have hP := HP.out
        rw [List.take_of_length_le (by rw [windsL_len]; exact Nat.le_refl _)] at hP
        subst hP
        have x_0 := x_9.below hb
        have y_0 := y_9.below hb
        have z_0 := z_9.below hb
        have q_0 := hown.ints
        have B_0 := below_chain B_9 hb B_9.size
        clear hown hb HP x_r hsz x_9 y_9 z_9 B_9
        go_wp2_with fail
        refine (ref_equal _ _ _ _ _ _ _ _ _ z_0 q_0).mono ?_
        rintro e u1 ⟨rfl, hd⟩
        rw [E2.out]
        have x_1 := x_0.drawn hd
        have y_1 := y_0.drawn hd
        have z_1 := z_0.drawn hd
        have q_1 := q_0.drawn hd
        have B_1 := B_0.trans (hd.below _)
        clear x_0 y_0 z_0 q_0 B_0 hd
        clear z_1
        cases hxy : (windsL L k == windsL (normalL L) k) with
        | true =>
          have E4 := Lib.hid hxy
          clear hxy
          go_wp2_with fail
          refine (ref_equal _ _ _ _ _ _ _ _ _ x_1 y_1).mono ?_
          rintro e u2 ⟨rfl, hd⟩
          rw [E4.out]
          have x_2 := x_1.drawn hd
          have y_2 := y_1.drawn hd
          have q_2 := q_1.drawn hd
          have B_2 := B_1.trans (hd.below _)
          clear x_1 y_1 q_1 B_1 hd
          go_wp2_with fail
          refine (law_known _).mono ?_
          rintro e u3 ⟨rfl, hb⟩
          have B_3 := below_chain B_2 hb B_2.size
          clear B_2 hb
          go_wp2_with fail
          go_ret
          exact ⟨rfl, B_3⟩
        | false =>
          have E4 := Lib.hid hxy
          have E5 : Hid (((windsL L k).map (fun z => -z) == windsL (normalL L) k) = true) := by
            unfold Hid
            rcases E3.out with h | h
            · rw [h] at hxy; simp at hxy
            · rw [h]; exact beq_self_eq_true _
          clear hxy
          go_wp2_with fail
          refine (ref_equal _ _ _ _ _ _ _ _ _ x_1 y_1).mono ?_
          rintro e u2 ⟨rfl, hd⟩
          rw [E4.out]
          have x_2 := x_1.drawn hd
          have y_2 := y_1.drawn hd
          have q_2 := q_1.drawn hd
          have B_2 := B_1.trans (hd.below _)
          clear x_1 y_1 q_1 B_1 hd
          go_wp2_with fail
          refine (ref_equal _ _ _ _ _ _ _ _ _ q_2 y_2).mono ?_
          rintro e u3 ⟨rfl, hd⟩
          rw [E5.out]
          have x_3 := x_2.drawn hd
          have y_3 := y_2.drawn hd
          have q_3 := q_2.drawn hd
          have B_3 := B_2.trans (hd.below _)
          clear x_2 y_2 q_2 B_2 hd
          go_wp2_with fail
          refine (law_known _).mono ?_
          rintro e u4 ⟨rfl, hb⟩
          have B_4 := below_chain B_3 hb B_3.size
          clear B_3 hb
          go_wp2_with fail
          go_ret
          exact ⟨rfl, B_4⟩
  · have HV : Hid (validB K L = false) := by unfold Hid; simpa using h
    clear h
    have w_0 := hA
    have B_0 := Below.refl w.heap.size w
    go_enter Tryd.func9, Tryd.ntmps9
    go_wp2_with (first | (go_at_call 20; refine (ref_valid_is HV.out _ _ _ _ w_0).mono ?_; rintro e w' ⟨rfl, rfl⟩))
    refine (law_known _).mono ?_
    rintro e u1 ⟨rfl, hb⟩
    have B_1 := below_chain B_0 hb B_0.size
    clear B_0 hb
    go_wp2_with fail
    go_ret
    exact ⟨rfl, B_1⟩
end Go.Proofs.YtnlggiimgihmcaaDoor
