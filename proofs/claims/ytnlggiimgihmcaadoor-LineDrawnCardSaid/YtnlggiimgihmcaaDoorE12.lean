/-
  Walk: LineRanks returns true. Conditions: the slice reads.
-/
import Derived.Test.YtnlggiimgihmcaaDoorE2
import Derived.Test.YtnlggiimgihmcaaDoorP11
namespace Go.Proofs.YtnlggiimgihmcaaDoor
open Go.RowKit
theorem errR_word {L : List Int} (h : errW L ≠ 0) : errR L = errW L := by unfold errR; rw [if_neg h]
theorem errR_red {L : List Int} (h : errW L = 0) (h2 : redB L = false) : errR L = 2 := by unfold errR; rw [if_pos h, if_neg (by rw [h2]; simp)]
theorem errR_none {L : List Int} (h : errW L = 0) (h2 : redB L = true) (h3 : ¬RanksOk L) : errR L = 8 := by unfold errR; rw [if_pos h, if_pos h2, if_neg h3]
theorem errR_ok {L : List Int} (h : errW L = 0) (h2 : redB L = true) (h3 : RanksOk L) : errR L = 0 := by unfold errR; rw [if_pos h, if_pos h2, if_pos h3]
theorem ref_reduced_is {b : Bool} {L : List Int} (h : redB L = b) (A : Option Addr) (n c : Nat) (w : World) (hA : Ints w A n L) :
    Calls Tryd.prog 22 #[.slice A n c] w fun e w' => e = .returned (.bool b) ∧ Drawn w w' := by
  subst h
  exact ref_reduced A n c L w hA
set_option maxHeartbeats 1600000 in
set_option maxRecDepth 100000 in
theorem lineRanks_any (A : Option Addr) (n c : Nat) (L : List Int) (w : World) (hA : Ints w A n L) (_ : n ≤ c) :
    Calls Tryd.prog 8 #[.slice A n c] w fun e w' => e = .returned (.bool true) ∧ Below w.heap.size w w' := by
  have HL := Lib.hid hA.len
  by_cases h : errW L = 0
  · have h400 : n ≤ 1000000 := by
      have := (wordB_iff.1 (of_errW h)).2.1
      rw [hA.len] at this; omega
    have HW := Lib.hid h
    cases h2 : redB L with
    | false =>
      have HE := Lib.hid (errR_red h h2)
      have HR := Lib.hid h2
      clear h h2
      go_enter Tryd.func8, Tryd.ntmps8
      go_wp2_with fail
      refine (line_Ranks _ _ _ _ _ hA).mono ?_
      intro e w1 hg
      rw [HE.out] at hg
      obtain ⟨X, cX, rfl, hb⟩ := gives_no hg (by decide)
      have hA1 := hA.below hb
      clear hg
      go_wp2_with (first | (go_at_call 25; refine (law_wrong_is HW.out _ _ _ _ hA1).mono ?_; rintro e w' ⟨rfl, rfl⟩))
      refine (ref_reduced_is HR.out _ _ _ _ hA1).mono ?_
      rintro e w2 ⟨rfl, hd⟩
      have hb2 := hb.trans (hd.below _)
      clear hb hd hA1
      go_wp2_with fail
      refine (law_known _).mono ?_
      rintro e w5 ⟨rfl, hb7⟩
      have hb8 := below_chain hb2 hb7 hb2.size
      clear hb2 hb7
      go_wp2_with fail
      go_ret
      exact ⟨rfl, hb8⟩
    | true =>
      have HR := Lib.hid h2
      by_cases h8 : 8 < n
      · obtain ⟨er, her⟩ : ∃ er, errR L = er := ⟨_, rfl⟩
        have HE := Lib.hid her
        clear h h2 her
        go_enter Tryd.func8, Tryd.ntmps8
        go_wp2_with fail
        refine (line_Ranks _ _ _ _ _ hA).mono ?_
        rintro e w1 ⟨X, cX, rfl, hX, hb⟩
        rw [HE.out]
        have hA1 := hA.below hb
        clear hX
        go_wp2_with (first | (go_at_call 25; refine (law_wrong_is HW.out _ _ _ _ hA1).mono ?_; rintro e w' ⟨rfl, rfl⟩))
        refine (ref_reduced_is HR.out _ _ _ _ hA1).mono ?_
        rintro e w2 ⟨rfl, hd⟩
        have hb2 := hb.trans (hd.below _)
        clear hb hd hA1
        go_wp2_with fail
        refine (law_known _).mono ?_
        rintro e w5 ⟨rfl, hb7⟩
        have hb8 := below_chain hb2 hb7 hb2.size
        clear hb2 hb7
        go_wp2_with fail
        go_ret
        exact ⟨rfl, hb8⟩
      · by_cases hok : RanksOk L
        · have HE := Lib.hid (errR_ok h h2 hok)
          have HOK := Lib.hid hok
          clear h h2 hok
          go_enter Tryd.func8, Tryd.ntmps8
          go_wp2_with fail
          refine (line_Ranks _ _ _ _ _ hA).mono ?_
          intro e w1 hg
          obtain ⟨X, mX, cX, rfl, hX, hb⟩ := gives_ok3 hg HE.out
          have hX1 := hX.ints
          have hA1 := hA.below hb
          clear hg hX
          go_wp2_with (first | (go_at_call 25; refine (law_wrong_is HW.out _ _ _ _ hA1).mono ?_; rintro e w' ⟨rfl, rfl⟩))
          refine (ref_reduced_is HR.out _ _ _ _ hA1).mono ?_
          rintro e w2 ⟨rfl, hd⟩
          have hb2 := hb.trans (hd.below _)
          have hA2 := hA1.drawn hd
          have hX2 := hX1.drawn hd
          clear hb hd hA1 hX1
          go_wp2_with fail
          refine (ref_Ranks _ _ _ _ _ hA2 h400).mono ?_
          rintro e w3 ⟨b, Y, nY, cY, rfl, h1, h2, hb3⟩
          cases b with
          | false => exact absurd (ranks_drawn HOK.out HR.out) (h2 rfl _ List.nil_prefix)
          | true =>
            obtain ⟨S, hS, hD⟩ := h1 rfl
            have hSE := (ranks_some HR.out hD).2
            subst hSE
            have hX3 := hX2.below hb3
            have hb4 := below_chain hb2 hb3 hb2.size
            clear h1 h2 hD hX2 hA2 hb2 hb3
            go_wp2_with fail
            refine (ref_equal _ _ _ _ _ _ _ _ _ hX3 hS).mono ?_
            rintro e w4 ⟨rfl, hd⟩
            rw [beq_self_eq_true]
            have hb5 := hb4.trans (hd.below _)
            clear hb4 hd hX3 hS
            go_wp2_with fail
            refine (law_known _).mono ?_
            rintro e w5 ⟨rfl, hb7⟩
            have hb8 := below_chain hb5 hb7 hb5.size
            clear hb5 hb7
            go_wp2_with fail
            go_ret
            exact ⟨rfl, hb8⟩
        · have HE := Lib.hid (errR_none h h2 hok)
          have HOK := Lib.hid hok
          clear h h2 hok
          go_enter Tryd.func8, Tryd.ntmps8
          go_wp2_with fail
          refine (line_Ranks _ _ _ _ _ hA).mono ?_
          intro e w1 hg
          rw [HE.out] at hg
          obtain ⟨X, cX, rfl, hb⟩ := gives_no hg (by decide)
          have hA1 := hA.below hb
          clear hg
          go_wp2_with (first | (go_at_call 25; refine (law_wrong_is HW.out _ _ _ _ hA1).mono ?_; rintro e w' ⟨rfl, rfl⟩))
          refine (ref_reduced_is HR.out _ _ _ _ hA1).mono ?_
          rintro e w2 ⟨rfl, hd⟩
          have hb2 := hb.trans (hd.below _)
          have hA2 := hA1.drawn hd
          clear hb hd hA1
          go_wp2_with fail
          refine (ref_Ranks _ _ _ _ _ hA2 h400).mono ?_
          rintro e w3 ⟨b, Y, nY, cY, rfl, h1, h2, hb3⟩
          cases b with
          | true =>
            obtain ⟨S, hS, hD⟩ := h1 rfl
            exact absurd (ranks_some HR.out hD).1 HOK.out
          | false =>
            have hb4 := below_chain hb2 hb3 hb2.size
            clear h1 h2 hA2 hb2 hb3
            go_wp2_with fail
            refine (law_known _).mono ?_
            rintro e w5 ⟨rfl, hb7⟩
            have hb8 := below_chain hb4 hb7 hb4.size
            clear hb4 hb7
            go_wp2_with fail
            go_ret
            exact ⟨rfl, hb8⟩
  · obtain ⟨er, her⟩ : ∃ er, errW L = er := ⟨_, rfl⟩
    have HR : Hid (errR L = er) := by unfold Hid; rw [errR_word h, her]
    rw [her] at h
    have hne : (er != 0) = true := by simpa using h
    have HW := Lib.hid her
    have HE := Lib.hid h
    clear h her
    go_enter Tryd.func8, Tryd.ntmps8
    go_wp2_with fail
    refine (line_Ranks _ _ _ _ _ hA).mono ?_
    intro e w1 hg
    rw [HR.out] at hg
    obtain ⟨X, cX, rfl, hb⟩ := gives_no hg HE.out
    have hA1 := hA.below hb
    clear hg
    go_wp2_with (first | (go_at_call 25; refine (law_wrong_is HW.out _ _ _ _ hA1).mono ?_; rintro e w' ⟨rfl, rfl⟩))
    refine (law_known _).mono ?_
    rintro e w5 ⟨rfl, hb7⟩
    have hb8 := below_chain hb hb7 hb.size
    clear hb hb7
    go_wp2_with fail
    go_ret
    exact ⟨rfl, hb8⟩
end Go.Proofs.YtnlggiimgihmcaaDoor
