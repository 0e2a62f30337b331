/-
  Walk: LineForgets returns true. Conditions: the slice reads.
-/
import Derived.Test.YtnlggiimgihmcaaDoorE2
import Derived.Test.YtnlggiimgihmcaaDoorP10
namespace Go.Proofs.YtnlggiimgihmcaaDoor
open Go.RowKit
set_option maxHeartbeats 800000 in
theorem lineForgets_any (K : Int) (A : Option Addr) (n c : Nat) (L : List Int) (f : Int) (w : World) (_ : I64 K) (hA : Ints w A n L) (_ : n ≤ c) (_ : I64 f) :
    Calls Tryd.prog 5 #[.int .i64 K, .slice A n c, .int .i64 f] w fun e w' => e = .returned (.bool true) ∧ Below w.heap.size w w' := by
  by_cases h : errF K L = 0
  · have hv := of_errF h
    by_cases hf : 1 ≤ f ∧ f ≤ K
    · have HG := Lib.hid (errG_of hv hf.1 hf.2)
      have HD := Lib.hid (validB_word (validB_drop hv hf.1 hf.2))
      have h40 := Lib.hid (in40_of_wordB (validB_word hv))
      have HC := Lib.hid h
      obtain ⟨hf1, hf2⟩ := hf
      clear h hv
      go_enter Tryd.func5, Tryd.ntmps5
      go_wp2_with fail
      refine (line_Forget _ _ _ _ _ _ _ hA).mono ?_
      intro e w1 hg
      obtain ⟨X, mX, cX, rfl, hX, hb⟩ := gives_ok3 hg HG.out
      have hA1 := hA.below hb
      have hX1 := hX.ints
      clear hg hX
      go_wp2_with (first | (go_at_call 29; refine (law_wrongFor_is HC.out _ _ _ _ hA1).mono ?_; rintro e w' ⟨rfl, rfl⟩))
      refine (ref_drop _ _ _ _ _ _ hA1 h40.out).mono ?_
      rintro e w2 ⟨D, cD, rfl, hD, hb2⟩
      have hX2 := hX1.below hb2
      have hb3 := below_chain hb hb2 hb.size
      have hD2 := hD.ints
      have hDc := hD.cap
      clear hX1 hA1 hb hb2 hD
      go_wp2_with fail
      refine (ref_normal _ _ _ _ _ hD2 hDc HD.out).mono ?_
      rintro e w3 ⟨N, m, cN, rfl, hN, hb4⟩
      have hX3 := hX2.below hb4
      have hb5 := below_chain hb3 hb4 hb3.size
      clear hX2 hb3 hb4 hD2 hDc
      go_wp2_with fail
      refine (ref_equal _ _ _ _ _ _ _ _ _ hX3 hN).mono ?_
      rintro e w4 ⟨rfl, hd⟩
      have hb6 := hb5.trans (hd.below _)
      clear hX3 hN hb5 hd
      go_wp2_with fail
      refine (law_known _).mono ?_
      rintro e w5 ⟨rfl, hb7⟩
      have hb8 := below_chain hb6 hb7 hb6.size
      clear hb6 hb7
      go_wp2_with fail
      go_ret
      exact ⟨rfl, hb8⟩
    · have HG : Hid (errG K L f = 2) := by unfold Hid errG; rw [if_pos h, if_neg hf]
      have HC := Lib.hid h
      clear h hv
      rcases Int.lt_or_le f 1 with h1 | h1
      · clear hf
        go_enter Tryd.func5, Tryd.ntmps5
        go_wp2_with fail
        refine (line_Forget _ _ _ _ _ _ _ hA).mono ?_
        intro e w1 hg
        rw [HG.out] at hg
        obtain ⟨X, cX, rfl, hb⟩ := gives_no hg (by decide)
        have hA1 := hA.below hb
        clear hg
        go_wp2_with (first | (go_at_call 29; refine (law_wrongFor_is HC.out _ _ _ _ hA1).mono ?_; rintro e w' ⟨rfl, rfl⟩))
        refine (law_known _).mono ?_
        rintro e w5 ⟨rfl, hb7⟩
        have hb8 := below_chain hb hb7 hb.size
        clear hb hb7
        go_wp2_with fail
        go_ret
        exact ⟨rfl, hb8⟩
      · have h2 : K < f := by omega
        clear hf
        go_enter Tryd.func5, Tryd.ntmps5
        go_wp2_with fail
        refine (line_Forget _ _ _ _ _ _ _ hA).mono ?_
        intro e w1 hg
        rw [HG.out] at hg
        obtain ⟨X, cX, rfl, hb⟩ := gives_no hg (by decide)
        have hA1 := hA.below hb
        clear hg
        go_wp2_with (first | (go_at_call 29; refine (law_wrongFor_is HC.out _ _ _ _ hA1).mono ?_; rintro e w' ⟨rfl, rfl⟩))
        refine (law_known _).mono ?_
        rintro e w5 ⟨rfl, hb7⟩
        have hb8 := below_chain hb hb7 hb.size
        clear hb hb7
        go_wp2_with fail
        go_ret
        exact ⟨rfl, hb8⟩
  · obtain ⟨er, her⟩ : ∃ er, errF K L = er := ⟨_, rfl⟩
    have HG : Hid (errG K L f = er) := by unfold Hid errG; rw [if_neg h, her]
    rw [her] at h
    have hne : (er != 0) = true := by simpa using h
    have hne2 : (er == 0) = false := by simpa using h
    have HC := Lib.hid her
    have HE := Lib.hid h
    clear h her
    go_enter Tryd.func5, Tryd.ntmps5
    go_wp2_with fail
    refine (line_Forget _ _ _ _ _ _ _ hA).mono ?_
    intro e w1 hg
    rw [HG.out] at hg
    obtain ⟨X, cX, rfl, hb⟩ := gives_no hg HE.out
    have hA1 := hA.below hb
    clear hg
    go_wp2_with (first | (go_at_call 29; refine (law_wrongFor_is HC.out _ _ _ _ hA1).mono ?_; rintro e w' ⟨rfl, rfl⟩))
    refine (law_known _).mono ?_
    rintro e w5 ⟨rfl, hb7⟩
    have hb8 := below_chain hb hb7 hb.size
    clear hb hb7
    go_wp2_with fail
    go_ret
    exact ⟨rfl, hb8⟩
end Go.Proofs.YtnlggiimgihmcaaDoor
