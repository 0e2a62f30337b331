/-
  Walk: LineSymmetries returns true. Conditions: the slice reads.
-/
import Derived.Test.YtnlggiimgihmcaaDoorE2
import Derived.Test.YtnlggiimgihmcaaDoorP10
namespace Go.Proofs.YtnlggiimgihmcaaDoor
open Go.RowKit
set_option maxHeartbeats 1600000 in
set_option maxRecDepth 100000 in
theorem lineSymmetries_any (K : Int) (A : Option Addr) (n c : Nat) (L : List Int) (w : World) (_ : I64 K) (hA : Ints w A n L) (hcap : n ≤ c) :
    Calls Tryd.prog 15 #[.int .i64 K, .slice A n c] w fun e w' => e = .returned (.bool true) ∧ Below w.heap.size w w' := by
  by_cases h : validB K L = true
  · have he := validB_even h
    have HW := Lib.hid (errW_of (validB_word h))
    have HWa := Lib.hid (errW_of (wordB_reverse (validB_word h)))
    have HWb := Lib.hid (errW_of (validB_word (validB_mirror h)))
    have HWc := Lib.hid (errW_of (wordB_turnL (validB_word h)))
    have HF := Lib.hid (errF_of h)
    have HFb := Lib.hid (errF_of (validB_mirror h))
    have HFc := Lib.hid (errF_of (validB_turnL h))
    have HWcc := Lib.hid (errW_of (wordB_turnL (wordB_turnL (validB_word h))))
    have HWca := Lib.hid (errW_of (wordB_reverse (wordB_turnL (validB_word h))))
    have HWac := Lib.hid (errW_of (wordB_turnL (wordB_reverse (validB_word h))))
    have E1 : Hid ((normalL L.reverse == normalL L) = true) := by unfold Hid; rw [(Eqv.rev L).normal he]; exact beq_self_eq_true _
    have E2 : Hid (((L.map (K - ·)).map (K - ·) == L) = true) := by unfold Hid; rw [mirror_mirror]; exact beq_self_eq_true _
    have E3 : Hid ((normalL (turnL (turnL L)) == normalL L) = true) := by unfold Hid; rw [← (eqv_turn_turn he).symm.normal he]; exact beq_self_eq_true _
    have E4 : Hid ((turnL (L.map (K - ·)) == (turnL L).map (K - ·)) = true) := by unfold Hid; rw [turnL_map]; exact beq_self_eq_true _
    have E5 : Hid ((normalL (turnL L).reverse == normalL (turnL L.reverse)) = true) := by
      unfold Hid
      rw [(eqv_turn_reverse he).normal (by rw [List.length_reverse, turnL_len]; exact he)]
      exact beq_self_eq_true _
    have HV := Lib.hid h
    clear he
    have w_0 := hA
    have B_0 := Below.refl w.heap.size w
    go_enter Tryd.func15, Tryd.ntmps15
    go_wp2_with (first | (go_at_call 20; refine (ref_valid_is HV.out _ _ _ _ w_0).mono ?_; rintro e w' ⟨rfl, rfl⟩))
    refine (line_Reverse _ _ _ _ _ w_0).mono ?_
    intro e u1 hg
    obtain ⟨X1, m1, c1, rfl, hX, hb⟩ := gives_ok3 hg HW.out
    have a_1 := hX.ints
    have ac := hX.cap
    have w_1 := w_0.below hb
    have B_1 := below_chain B_0 hb B_0.size
    clear w_0 B_0 hb
    clear hg hX
    go_wp2_with fail
    refine (line_Mirror _ _ _ _ _ _ w_1).mono ?_
    intro e u2 hg
    obtain ⟨X2, m2, c2, rfl, hX, hb⟩ := gives_ok3 hg HF.out
    have b_2 := hX.ints
    have bc := hX.cap
    have w_2 := w_1.below hb
    have a_2 := a_1.below hb
    have B_2 := below_chain B_1 hb B_1.size
    clear w_1 a_1 B_1 hb
    clear hg hX
    go_wp2_with fail
    refine (line_Turn _ _ _ _ _ w_2 hcap).mono ?_
    intro e u3 hg
    obtain ⟨X3, m3, c3, rfl, hX, hb⟩ := gives_ok3 hg HW.out
    have c_3 := hX.ints
    have cc := hX.cap
    have w_3 := w_2.below hb
    have a_3 := a_2.below hb
    have b_3 := b_2.below hb
    have B_3 := below_chain B_2 hb B_2.size
    clear w_2 a_2 b_2 B_2 hb
    clear hg hX
    go_wp2_with fail
    refine (line_Mirror _ _ _ _ _ _ b_3).mono ?_
    intro e u4 hg
    obtain ⟨X4, m4, c4, rfl, hX, hb⟩ := gives_ok3 hg HFb.out
    have bb_4 := hX.ints
    have bbc := hX.cap
    have w_4 := w_3.below hb
    have a_4 := a_3.below hb
    have b_4 := b_3.below hb
    have c_4 := c_3.below hb
    have B_4 := below_chain B_3 hb B_3.size
    clear w_3 a_3 b_3 c_3 B_3 hb
    clear hg hX
    go_wp2_with fail
    refine (line_Turn _ _ _ _ _ c_4 cc).mono ?_
    intro e u5 hg
    obtain ⟨X5, m5, c5, rfl, hX, hb⟩ := gives_ok3 hg HWc.out
    have cc_5 := hX.ints
    have ccc := hX.cap
    have w_5 := w_4.below hb
    have a_5 := a_4.below hb
    have b_5 := b_4.below hb
    have c_5 := c_4.below hb
    have bb_5 := bb_4.below hb
    have B_5 := below_chain B_4 hb B_4.size
    clear w_4 a_4 b_4 c_4 bb_4 B_4 hb
    clear hg hX
    go_wp2_with fail
    refine (line_Turn _ _ _ _ _ b_5 bc).mono ?_
    intro e u6 hg
    obtain ⟨X6, m6, c6, rfl, hX, hb⟩ := gives_ok3 hg HWb.out
    have bc_6 := hX.ints
    have bcc := hX.cap
    have w_6 := w_5.below hb
    have a_6 := a_5.below hb
    have b_6 := b_5.below hb
    have c_6 := c_5.below hb
    have bb_6 := bb_5.below hb
    have cc_6 := cc_5.below hb
    have B_6 := below_chain B_5 hb B_5.size
    clear w_5 a_5 b_5 c_5 bb_5 cc_5 B_5 hb
    clear hg hX
    go_wp2_with fail
    refine (line_Mirror _ _ _ _ _ _ c_6).mono ?_
    intro e u7 hg
    obtain ⟨X7, m7, c7, rfl, hX, hb⟩ := gives_ok3 hg HFc.out
    have cb_7 := hX.ints
    have cbc := hX.cap
    have w_7 := w_6.below hb
    have a_7 := a_6.below hb
    have b_7 := b_6.below hb
    have c_7 := c_6.below hb
    have bb_7 := bb_6.below hb
    have cc_7 := cc_6.below hb
    have bc_7 := bc_6.below hb
    have B_7 := below_chain B_6 hb B_6.size
    clear w_6 a_6 b_6 c_6 bb_6 cc_6 bc_6 B_6 hb
    clear hg hX
    go_wp2_with fail
    refine (line_Reverse _ _ _ _ _ c_7).mono ?_
    intro e u8 hg
    obtain ⟨X8, m8, c8, rfl, hX, hb⟩ := gives_ok3 hg HWc.out
    have ca_8 := hX.ints
    have cac := hX.cap
    have w_8 := w_7.below hb
    have a_8 := a_7.below hb
    have b_8 := b_7.below hb
    have c_8 := c_7.below hb
    have bb_8 := bb_7.below hb
    have cc_8 := cc_7.below hb
    have bc_8 := bc_7.below hb
    have cb_8 := cb_7.below hb
    have B_8 := below_chain B_7 hb B_7.size
    clear w_7 a_7 b_7 c_7 bb_7 cc_7 bc_7 cb_7 B_7 hb
    clear hg hX
    go_wp2_with fail
    refine (line_Turn _ _ _ _ _ a_8 ac).mono ?_
    intro e u9 hg
    obtain ⟨X9, m9, c9, rfl, hX, hb⟩ := gives_ok3 hg HWa.out
    have ac_9 := hX.ints
    have acc := hX.cap
    have w_9 := w_8.below hb
    have a_9 := a_8.below hb
    have b_9 := b_8.below hb
    have c_9 := c_8.below hb
    have bb_9 := bb_8.below hb
    have cc_9 := cc_8.below hb
    have bc_9 := bc_8.below hb
    have cb_9 := cb_8.below hb
    have ca_9 := ca_8.below hb
    have B_9 := below_chain B_8 hb B_8.size
    clear w_8 a_8 b_8 c_8 bb_8 cc_8 bc_8 cb_8 ca_8 B_8 hb
    clear hg hX
    go_wp2_with fail
    refine (law_normal _ _ _ _ _ a_9).mono ?_
    rintro e u10 ⟨X10, m10, c10, rfl, hX, hb⟩
    rw [okL_yes HWa.out] at hX
    have na_10 := hX.ints
    have nac := hX.cap
    have w_10 := w_9.below hb
    have a_10 := a_9.below hb
    have b_10 := b_9.below hb
    have c_10 := c_9.below hb
    have bb_10 := bb_9.below hb
    have cc_10 := cc_9.below hb
    have bc_10 := bc_9.below hb
    have cb_10 := cb_9.below hb
    have ca_10 := ca_9.below hb
    have ac_10 := ac_9.below hb
    have B_10 := below_chain B_9 hb B_9.size
    clear w_9 a_9 b_9 c_9 bb_9 cc_9 bc_9 cb_9 ca_9 ac_9 B_9 hb
    clear hX
    go_wp2_with fail
    refine (law_normal _ _ _ _ _ w_10).mono ?_
    rintro e u11 ⟨X11, m11, c11, rfl, hX, hb⟩
    rw [okL_yes HW.out] at hX
    have nw_11 := hX.ints
    have nwc := hX.cap
    have w_11 := w_10.below hb
    have a_11 := a_10.below hb
    have b_11 := b_10.below hb
    have c_11 := c_10.below hb
    have bb_11 := bb_10.below hb
    have cc_11 := cc_10.below hb
    have bc_11 := bc_10.below hb
    have cb_11 := cb_10.below hb
    have ca_11 := ca_10.below hb
    have ac_11 := ac_10.below hb
    have na_11 := na_10.below hb
    have B_11 := below_chain B_10 hb B_10.size
    clear w_10 a_10 b_10 c_10 bb_10 cc_10 bc_10 cb_10 ca_10 ac_10 na_10 B_10 hb
    clear hX
    go_wp2_with fail
    refine (ref_equal _ _ _ _ _ _ _ _ _ na_11 nw_11).mono ?_
    rintro e u12 ⟨rfl, hd⟩
    rw [E1.out]
    have w_12 := w_11.drawn hd
    have a_12 := a_11.drawn hd
    have b_12 := b_11.drawn hd
    have c_12 := c_11.drawn hd
    have bb_12 := bb_11.drawn hd
    have cc_12 := cc_11.drawn hd
    have bc_12 := bc_11.drawn hd
    have cb_12 := cb_11.drawn hd
    have ca_12 := ca_11.drawn hd
    have ac_12 := ac_11.drawn hd
    have na_12 := na_11.drawn hd
    have nw_12 := nw_11.drawn hd
    have B_12 := B_11.trans (hd.below _)
    clear w_11 a_11 b_11 c_11 bb_11 cc_11 bc_11 cb_11 ca_11 ac_11 na_11 nw_11 B_11 hd
    clear na_12 nw_12 a_12 b_12 c_12
    go_wp2_with fail
    refine (ref_equal _ _ _ _ _ _ _ _ _ bb_12 w_12).mono ?_
    rintro e u13 ⟨rfl, hd⟩
    rw [E2.out]
    have w_13 := w_12.drawn hd
    have bb_13 := bb_12.drawn hd
    have cc_13 := cc_12.drawn hd
    have bc_13 := bc_12.drawn hd
    have cb_13 := cb_12.drawn hd
    have ca_13 := ca_12.drawn hd
    have ac_13 := ac_12.drawn hd
    have B_13 := B_12.trans (hd.below _)
    clear w_12 bb_12 cc_12 bc_12 cb_12 ca_12 ac_12 B_12 hd
    clear bb_13
    go_wp2_with fail
    refine (law_normal _ _ _ _ _ cc_13).mono ?_
    rintro e u14 ⟨X14, m14, c14, rfl, hX, hb⟩
    rw [okL_yes HWcc.out] at hX
    have ncc_14 := hX.ints
    have nccc := hX.cap
    have w_14 := w_13.below hb
    have cc_14 := cc_13.below hb
    have bc_14 := bc_13.below hb
    have cb_14 := cb_13.below hb
    have ca_14 := ca_13.below hb
    have ac_14 := ac_13.below hb
    have B_14 := below_chain B_13 hb B_13.size
    clear w_13 cc_13 bc_13 cb_13 ca_13 ac_13 B_13 hb
    clear hX
    go_wp2_with fail
    refine (law_normal _ _ _ _ _ w_14).mono ?_
    rintro e u15 ⟨X15, m15, c15, rfl, hX, hb⟩
    rw [okL_yes HW.out] at hX
    have nw2_15 := hX.ints
    have nw2c := hX.cap
    have w_15 := w_14.below hb
    have cc_15 := cc_14.below hb
    have bc_15 := bc_14.below hb
    have cb_15 := cb_14.below hb
    have ca_15 := ca_14.below hb
    have ac_15 := ac_14.below hb
    have ncc_15 := ncc_14.below hb
    have B_15 := below_chain B_14 hb B_14.size
    clear w_14 cc_14 bc_14 cb_14 ca_14 ac_14 ncc_14 B_14 hb
    clear hX
    go_wp2_with fail
    refine (ref_equal _ _ _ _ _ _ _ _ _ ncc_15 nw2_15).mono ?_
    rintro e u16 ⟨rfl, hd⟩
    rw [E3.out]
    have w_16 := w_15.drawn hd
    have cc_16 := cc_15.drawn hd
    have bc_16 := bc_15.drawn hd
    have cb_16 := cb_15.drawn hd
    have ca_16 := ca_15.drawn hd
    have ac_16 := ac_15.drawn hd
    have ncc_16 := ncc_15.drawn hd
    have nw2_16 := nw2_15.drawn hd
    have B_16 := B_15.trans (hd.below _)
    clear w_15 cc_15 bc_15 cb_15 ca_15 ac_15 ncc_15 nw2_15 B_15 hd
    clear ncc_16 nw2_16 cc_16 w_16
    go_wp2_with fail
    refine (ref_equal _ _ _ _ _ _ _ _ _ bc_16 cb_16).mono ?_
    rintro e u17 ⟨rfl, hd⟩
    rw [E4.out]
    have bc_17 := bc_16.drawn hd
    have cb_17 := cb_16.drawn hd
    have ca_17 := ca_16.drawn hd
    have ac_17 := ac_16.drawn hd
    have B_17 := B_16.trans (hd.below _)
    clear bc_16 cb_16 ca_16 ac_16 B_16 hd
    clear bc_17 cb_17
    go_wp2_with fail
    refine (law_normal _ _ _ _ _ ca_17).mono ?_
    rintro e u18 ⟨X18, m18, c18, rfl, hX, hb⟩
    rw [okL_yes HWca.out] at hX
    have nca_18 := hX.ints
    have ncac := hX.cap
    have ca_18 := ca_17.below hb
    have ac_18 := ac_17.below hb
    have B_18 := below_chain B_17 hb B_17.size
    clear ca_17 ac_17 B_17 hb
    clear hX
    go_wp2_with fail
    refine (law_normal _ _ _ _ _ ac_18).mono ?_
    rintro e u19 ⟨X19, m19, c19, rfl, hX, hb⟩
    rw [okL_yes HWac.out] at hX
    have nac_19 := hX.ints
    have nacc := hX.cap
    have ca_19 := ca_18.below hb
    have ac_19 := ac_18.below hb
    have nca_19 := nca_18.below hb
    have B_19 := below_chain B_18 hb B_18.size
    clear ca_18 ac_18 nca_18 B_18 hb
    clear hX
    go_wp2_with fail
    refine (ref_equal _ _ _ _ _ _ _ _ _ nca_19 nac_19).mono ?_
    rintro e u20 ⟨rfl, hd⟩
    rw [E5.out]
    have ca_20 := ca_19.drawn hd
    have ac_20 := ac_19.drawn hd
    have nca_20 := nca_19.drawn hd
    have nac_20 := nac_19.drawn hd
    have B_20 := B_19.trans (hd.below _)
    clear ca_19 ac_19 nca_19 nac_19 B_19 hd
    clear nca_20 nac_20 ca_20 ac_20
    go_wp2_with fail
    refine (law_known _).mono ?_
    rintro e u21 ⟨rfl, hb⟩
    have B_21 := below_chain B_20 hb B_20.size
    clear B_20 hb
    go_wp2_with fail
    go_ret
    exact ⟨rfl, B_21⟩
  · have HV : Hid (validB K L = false) := by unfold Hid; simpa using h
    clear h
    have w_0 := hA
    have B_0 := Below.refl w.heap.size w
    go_enter Tryd.func15, Tryd.ntmps15
    go_wp2_with (first | (go_at_call 20; refine (ref_valid_is HV.out _ _ _ _ w_0).mono ?_; rintro e w' ⟨rfl, rfl⟩))
    refine (law_known _).mono ?_
    rintro e u1 ⟨rfl, hb⟩
    have B_1 := below_chain B_0 hb B_0.size
    clear B_0 hb
    go_wp2_with fail
    go_ret
    exact ⟨rfl, B_1⟩
end Go.Proofs.YtnlggiimgihmcaaDoor
