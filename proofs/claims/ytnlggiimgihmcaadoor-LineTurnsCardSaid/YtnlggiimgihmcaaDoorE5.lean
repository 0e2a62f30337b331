/-
  Walk: LineTurns returns true. Conditions: the slice reads.
-/
import Derived.Test.YtnlggiimgihmcaaDoorE2
import Derived.Test.YtnlggiimgihmcaaDoorP10
namespace Go.Proofs.YtnlggiimgihmcaaDoor
open Go.RowKit
theorem errF_of_errW {K er : Int} {L : List Int} (h : errW L = er) (hne : er ≠ 0) : errF K L ≠ 0 := by
  intro h0
  have := errW_of (validB_word (of_errF h0))
  omega
set_option maxHeartbeats 1600000 in
theorem lineTurns_any (K : Int) (A : Option Addr) (n c : Nat) (L : List Int) (w : World) (_ : I64 K) (hA : Ints w A n L) (hcap : n ≤ c) :
    Calls Tryd.prog 14 #[.int .i64 K, .slice A n c] w fun e w' => e = .returned (.bool true) ∧ Below w.heap.size w w' := by
  by_cases h : errW L = 0
  · have HW := Lib.hid h
    have h40 := Lib.hid (in40_of_wordB (of_errW h))
    clear h
    by_cases h2 : errF K L = 0
    · obtain ⟨hK1, hK2⟩ := k_of_validB (of_errF h2)
      have HF := Lib.hid h2
      clear h2
      go_enter Tryd.func14, Tryd.ntmps14
      go_wp2_with fail
      refine (line_Reverse _ _ _ _ _ hA).mono ?_
      intro e w1 hg
      obtain ⟨X1, m1, c1, rfl, hX, hb1⟩ := gives_ok3 hg HW.out
      have hA1 := hA.below hb1
      have h1 := hX.ints
      clear hg hX
      go_wp2_with fail
      refine (line_Mirror _ _ _ _ _ _ hA1).mono ?_
      intro e w2 hg
      obtain ⟨X2, m2, c2, rfl, hX, hb2⟩ := gives_ok3 hg HF.out
      have hA2 := hA1.below hb2
      have h1' := h1.below hb2
      have h2 := hX.ints
      have hb2' := below_chain hb1 hb2 hb1.size
      clear hg hX hA1 hb1 hb2 h1
      go_wp2_with fail
      refine (line_Turn _ _ _ _ _ hA2 hcap).mono ?_
      intro e w3 hg
      obtain ⟨X3, m3, c3, rfl, hX, hb3⟩ := gives_ok3 hg HW.out
      have hA3 := hA2.below hb3
      have h1 := h1'.below hb3
      have h2' := h2.below hb3
      have h3 := hX.ints
      have hb := below_chain hb2' hb3 hb2'.size
      clear hg hX hA2 hb2' hb3 h1' h2
      go_wp2_with (first | (go_at_call 25; refine (law_wrong_is HW.out _ _ _ _ hA3).mono ?_; rintro e w' ⟨rfl, rfl⟩) | (go_at_call 29; refine (law_wrongFor_is HF.out _ _ _ _ hA3).mono ?_; rintro e w' ⟨rfl, rfl⟩))
      refine (ref_reverse _ _ _ _ _ hA3).mono ?_
      rintro e w4 ⟨Y1, d1, rfl, hY, hb4⟩
      have hA4 := hA3.below hb4
      have h1' := h1.below hb4
      have h2 := h2'.below hb4
      have h3' := h3.below hb4
      have hY' := hY.ints
      have hb' := below_chain hb hb4 hb.size
      clear hA3 h1 h2' h3 hY hb hb4
      go_wp2_with fail
      refine (ref_equal _ _ _ _ _ _ _ _ _ h1' hY').mono ?_
      rintro e w5 ⟨rfl, hd⟩
      have hA5 := hA4.drawn hd
      have h2' := h2.drawn hd
      have h3 := h3'.drawn hd
      have hb := hb'.trans (hd.below _)
      clear hA4 h1' h2 h3' hY' hb' hd
      go_wp2_with fail
      refine (ref_turn _ _ _ _ _ hA5 hcap).mono ?_
      rintro e w6 ⟨Y2, d2, rfl, hY, hb4⟩
      have hA6 := hA5.below hb4
      have h2 := h2'.below hb4
      have h3' := h3.below hb4
      have hY' := hY.ints
      have hb' := below_chain hb hb4 hb.size
      clear hA5 h2' h3 hY hb hb4
      go_wp2_with fail
      refine (ref_equal _ _ _ _ _ _ _ _ _ h3' hY').mono ?_
      rintro e w7 ⟨rfl, hd⟩
      have hA7 := hA6.drawn hd
      have h2' := h2.drawn hd
      have hb := hb'.trans (hd.below _)
      clear hA6 h2 h3' hY' hb' hd
      go_wp2_with fail
      refine (ref_mirror _ _ _ _ _ _ hA7 hK1 hK2 h40.out).mono ?_
      rintro e w8 ⟨Y3, d3, rfl, hY, hb4⟩
      have h2 := h2'.below hb4
      have hY' := hY.ints
      have hb' := below_chain hb hb4 hb.size
      clear hA7 h2' hY hb hb4
      go_wp2_with fail
      refine (ref_equal _ _ _ _ _ _ _ _ _ h2 hY').mono ?_
      rintro e w9 ⟨rfl, hd⟩
      have hb := hb'.trans (hd.below _)
      clear h2 hY' hb' hd
      go_wp2_with fail
      refine (law_known _).mono ?_
      rintro e w10 ⟨rfl, hb7⟩
      have hb8 := below_chain hb hb7 hb.size
      clear hb hb7
      go_wp2_with fail
      go_ret
      exact ⟨rfl, hb8⟩
    · obtain ⟨er, her⟩ : ∃ er, errF K L = er := ⟨_, rfl⟩
      rw [her] at h2
      have hne : (er != 0) = true := by simpa using h2
      have HF := Lib.hid her
      have HE := Lib.hid h2
      clear h2 her
      go_enter Tryd.func14, Tryd.ntmps14
      go_wp2_with fail
      refine (line_Reverse _ _ _ _ _ hA).mono ?_
      intro e w1 hg
      obtain ⟨X1, m1, c1, rfl, hX, hb1⟩ := gives_ok3 hg HW.out
      have hA1 := hA.below hb1
      have h1 := hX.ints
      clear hg hX
      go_wp2_with fail
      refine (line_Mirror _ _ _ _ _ _ hA1).mono ?_
      intro e w2 hg
      rw [HF.out] at hg
      obtain ⟨X2, c2, rfl, hb2⟩ := gives_no hg HE.out
      have hA2 := hA1.below hb2
      have h1' := h1.below hb2
      have hb2' := below_chain hb1 hb2 hb1.size
      clear hg hA1 hb1 hb2 h1
      go_wp2_with fail
      refine (line_Turn _ _ _ _ _ hA2 hcap).mono ?_
      intro e w3 hg
      obtain ⟨X3, m3, c3, rfl, hX, hb3⟩ := gives_ok3 hg HW.out
      have hA3 := hA2.below hb3
      have h1 := h1'.below hb3
      have h3 := hX.ints
      have hb := below_chain hb2' hb3 hb2'.size
      clear hg hX hA2 hb2' hb3 h1'
      go_wp2_with (first | (go_at_call 25; refine (law_wrong_is HW.out _ _ _ _ hA3).mono ?_; rintro e w' ⟨rfl, rfl⟩) | (go_at_call 29; refine (law_wrongFor_is HF.out _ _ _ _ hA3).mono ?_; rintro e w' ⟨rfl, rfl⟩))
      refine (ref_reverse _ _ _ _ _ hA3).mono ?_
      rintro e w4 ⟨Y1, d1, rfl, hY, hb4⟩
      have hA4 := hA3.below hb4
      have h1' := h1.below hb4
      have h3' := h3.below hb4
      have hY' := hY.ints
      have hb' := below_chain hb hb4 hb.size
      clear hA3 h1 h3 hY hb hb4
      go_wp2_with fail
      refine (ref_equal _ _ _ _ _ _ _ _ _ h1' hY').mono ?_
      rintro e w5 ⟨rfl, hd⟩
      have hA5 := hA4.drawn hd
      have h3 := h3'.drawn hd
      have hb := hb'.trans (hd.below _)
      clear hA4 h1' h3' hY' hb' hd
      go_wp2_with fail
      refine (ref_turn _ _ _ _ _ hA5 hcap).mono ?_
      rintro e w6 ⟨Y2, d2, rfl, hY, hb4⟩
      have h3' := h3.below hb4
      have hY' := hY.ints
      have hb' := below_chain hb hb4 hb.size
      clear hA5 h3 hY hb hb4
      go_wp2_with fail
      refine (ref_equal _ _ _ _ _ _ _ _ _ h3' hY').mono ?_
      rintro e w7 ⟨rfl, hd⟩
      have hb := hb'.trans (hd.below _)
      clear h3' hY' hb' hd
      go_wp2_with fail
      refine (law_known _).mono ?_
      rintro e w10 ⟨rfl, hb7⟩
      have hb8 := below_chain hb hb7 hb.size
      clear hb hb7
      go_wp2_with fail
      go_ret
      exact ⟨rfl, hb8⟩
  · obtain ⟨er, her⟩ : ∃ er, errW L = er := ⟨_, rfl⟩
    rw [her] at h
    have h2 := errF_of_errW (K := K) her h
    obtain ⟨ef, hef⟩ : ∃ ef, errF K L = ef := ⟨_, rfl⟩
    rw [hef] at h2
    have hne : (er != 0) = true := by simpa using h
    have hne0 : (er == 0) = false := by simpa using h
    have hne2 : (ef != 0) = true := by simpa using h2
    have HW := Lib.hid her
    have HE := Lib.hid h
    have HF := Lib.hid hef
    have HE2 := Lib.hid h2
    clear h her h2 hef
    go_enter Tryd.func14, Tryd.ntmps14
    go_wp2_with fail
    refine (line_Reverse _ _ _ _ _ hA).mono ?_
    intro e w1 hg
    rw [HW.out] at hg
    obtain ⟨X1, c1, rfl, hb1⟩ := gives_no hg HE.out
    have hA1 := hA.below hb1
    clear hg
    go_wp2_with fail
    refine (line_Mirror _ _ _ _ _ _ hA1).mono ?_
    intro e w2 hg
    rw [HF.out] at hg
    obtain ⟨X2, c2, rfl, hb2⟩ := gives_no hg HE2.out
    have hA2 := hA1.below hb2
    have hb2' := below_chain hb1 hb2 hb1.size
    clear hg hA1 hb1 hb2
    go_wp2_with fail
    refine (line_Turn _ _ _ _ _ hA2 hcap).mono ?_
    intro e w3 hg
    rw [HW.out] at hg
    obtain ⟨X3, c3, rfl, hb3⟩ := gives_no hg HE.out
    have hA3 := hA2.below hb3
    have hb := below_chain hb2' hb3 hb2'.size
    clear hg hA2 hb2' hb3
    go_wp2_with (first | (go_at_call 25; refine (law_wrong_is HW.out _ _ _ _ hA3).mono ?_; rintro e w' ⟨rfl, rfl⟩) | (go_at_call 29; refine (law_wrongFor_is HF.out _ _ _ _ hA3).mono ?_; rintro e w' ⟨rfl, rfl⟩))
    refine (law_known _).mono ?_
    rintro e w10 ⟨rfl, hb7⟩
    have hb8 := below_chain hb hb7 hb.size
    clear hb hb7
    go_wp2_with fail
    go_ret
    exact ⟨rfl, hb8⟩
end Go.Proofs.YtnlggiimgihmcaaDoor
