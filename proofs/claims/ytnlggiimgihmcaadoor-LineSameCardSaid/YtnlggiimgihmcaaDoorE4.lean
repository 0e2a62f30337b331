/-
  Walk: LineSame returns true. Conditions: the slices read.
-/
import Derived.Test.YtnlggiimgihmcaaDoorE2
namespace Go.Proofs.YtnlggiimgihmcaaDoor
open Go.RowKit
set_option maxHeartbeats 800000 in
theorem lineSame_any (A : Option Addr) (n c : Nat) (L : List Int) (B : Option Addr) (m d : Nat) (M : List Int) (w : World) (hA : Ints w A n L) (hcap : n ≤ c) (hB : Ints w B m M) (hcap2 : m ≤ d) :
    Calls Tryd.prog 12 #[.slice A n c, .slice B m d] w fun e w' => e = .returned (.bool true) ∧ Below w.heap.size w w' := by
  by_cases h : errW L = 0
  · by_cases h2 : errW M = 0
    · have HS : Hid (errS L M = 0) := by unfold Hid errS; rw [if_pos h, h2]
      have HL := Lib.hid (of_errW h)
      have HM := Lib.hid (of_errW h2)
      have HC := Lib.hid h
      have HC2 := Lib.hid h2
      have HB : Hid (sameB L M = (normalL L == normalL M)) := rfl
      clear h h2
      go_enter Tryd.func12, Tryd.ntmps12
      go_wp2_with fail
      refine (line_Same _ _ _ _ _ _ _ _ _ hA hB).mono ?_
      rintro e w1 ⟨rfl, hb⟩
      rw [if_pos HS.out, HS.out, HB.out]
      have hA1 := hA.below hb
      have hB1 := hB.below hb
      generalize hs : (normalL L == normalL M) = s
      have HQ := Lib.hid hs
      clear hs
      go_wp2_with fail
      refine (law_wrong_is HC.out _ _ _ _ hA1).mono ?_
      rintro e w' ⟨rfl, rfl⟩
      go_wp2_with fail
      refine (law_wrong_is HC2.out _ _ _ _ hB1).mono ?_
      rintro e w' ⟨rfl, rfl⟩
      go_wp2_with fail
      refine (ref_normal _ _ _ _ _ hA1 hcap HL.out).mono ?_
      rintro e w2 ⟨N, k, cN, rfl, hN, hb2⟩
      have hB2 := hB1.below hb2
      have hb3 := below_chain hb hb2 hb.size
      clear hA1 hB1 hb hb2
      go_wp2_with fail
      refine (ref_normal _ _ _ _ _ hB2 hcap2 HM.out).mono ?_
      rintro e w3 ⟨N', k', cN', rfl, hN', hb4⟩
      have hN2 := hN.below hb4
      have hb5 := below_chain hb3 hb4 hb3.size
      clear hB2 hN hb3 hb4
      go_wp2_with fail
      refine (ref_equal _ _ _ _ _ _ _ _ _ hN2 hN').mono ?_
      rintro e w4 ⟨rfl, hd⟩
      rw [HQ.out]
      have hb6 := hb5.trans (hd.below _)
      clear hN2 hN' hb5 hd
      go_wp2_with fail
      refine (law_known _).mono ?_
      rintro e w5 ⟨rfl, hb7⟩
      have hb8 := below_chain hb6 hb7 hb6.size
      clear hb6 hb7
      go_wp2_with fail
      go_ret
      exact ⟨rfl, hb8⟩
    · obtain ⟨er, her⟩ : ∃ er, errW M = er := ⟨_, rfl⟩
      have HS : Hid (errS L M = er) := by unfold Hid errS; rw [if_pos h, her]
      rw [her] at h2
      have hne : (er != 0) = true := by simpa using h2
      have HC := Lib.hid h
      have HC2 := Lib.hid her
      have HE := Lib.hid h2
      clear h h2 her
      go_enter Tryd.func12, Tryd.ntmps12
      go_wp2_with fail
      refine (line_Same _ _ _ _ _ _ _ _ _ hA hB).mono ?_
      rintro e w1 ⟨rfl, hb⟩
      rw [HS.out, if_neg HE.out]
      have hA1 := hA.below hb
      have hB1 := hB.below hb
      go_wp2_with fail
      refine (law_wrong_is HC.out _ _ _ _ hA1).mono ?_
      rintro e w' ⟨rfl, rfl⟩
      go_wp2_with fail
      refine (law_wrong_is HC2.out _ _ _ _ hB1).mono ?_
      rintro e w' ⟨rfl, rfl⟩
      go_wp2_with fail
      refine (law_known _).mono ?_
      rintro e w5 ⟨rfl, hb7⟩
      have hb8 := below_chain hb hb7 hb.size
      clear hb hb7
      go_wp2_with fail
      go_ret
      exact ⟨rfl, hb8⟩
  · obtain ⟨er, her⟩ : ∃ er, errW L = er := ⟨_, rfl⟩
    have HS : Hid (errS L M = er) := by unfold Hid errS; rw [if_neg h, her]
    rw [her] at h
    have hne : (er != 0) = true := by simpa using h
    have hne2 : (er == 0) = false := by simpa using h
    have HC2 := Lib.hid her
    have HE := Lib.hid h
    clear h her
    go_enter Tryd.func12, Tryd.ntmps12
    go_wp2_with fail
    refine (line_Same _ _ _ _ _ _ _ _ _ hA hB).mono ?_
    rintro e w1 ⟨rfl, hb⟩
    rw [HS.out, if_neg HE.out]
    have hA1 := hA.below hb
    go_wp2_with (first | (go_at_call 25; refine (law_wrong_is HC2.out _ _ _ _ hA1).mono ?_; rintro e w' ⟨rfl, rfl⟩))
    refine (law_known _).mono ?_
    rintro e w5 ⟨rfl, hb7⟩
    have hb8 := below_chain hb hb7 hb.size
    clear hb hb7
    go_wp2_with fail
    go_ret
    exact ⟨rfl, hb8⟩
end Go.Proofs.YtnlggiimgihmcaaDoor
