/-
  Walk: LineNormals returns true. Conditions: the slice reads.
-/
import Derived.Test.YtnlggiimgihmcaaDoorQ2
import Derived.Test.YtnlggiimgihmcaaDoorD2
namespace Go.Proofs.YtnlggiimgihmcaaDoor
open Go.RowKit
theorem law_wrong_is {er : Int} {L : List Int} (h : errW L = er) (A : Option Addr) (n c : Nat) (w : World) (hA : Ints w A n L) :
    Calls Tryd.prog 25 #[.slice A n c] w fun e w' => e = .returned (.int .i64 er) ∧ w' = w := by
  subst h
  exact law_wrong A n c L w hA
theorem law_wrongFor_is {er K : Int} {L : List Int} (h : errF K L = er) (A : Option Addr) (n c : Nat) (w : World) (hA : Ints w A n L) :
    Calls Tryd.prog 29 #[.int .i64 K, .slice A n c] w fun e w' => e = .returned (.int .i64 er) ∧ w' = w := by
  subst h
  exact law_wrongFor K A n c L w hA
theorem ref_valid_is {b : Bool} {K : Int} {L : List Int} (h : validB K L = b) (A : Option Addr) (n c : Nat) (w : World) (hA : Ints w A n L) :
    Calls Tryd.prog 20 #[.int .i64 K, .slice A n c] w fun e w' => e = .returned (.bool b) ∧ w' = w := by
  subst h
  exact ref_valid K A n c L w hA
theorem ref_word_is {b : Bool} {L : List Int} (h : wordB L = b) (A : Option Addr) (n c : Nat) (w : World) (hA : Ints w A n L) :
    Calls Tryd.prog 43 #[.slice A n c] w fun e w' => e = .returned (.bool b) ∧ w' = w := by
  subst h
  exact ref_word A n c L w hA
theorem gives_ok3 {w w' : World} {L : List Int} {er : Int} {e : Ending} (h : Gives w (okL er L) er e w') (he : er = 0) :
    ∃ A m c, e = .returned (.tuple #[.slice A m c, .int .i64 0]) ∧ Own w' w.heap.size A m c L ∧ Below w.heap.size w w' := by
  rw [okL_yes he, he] at h
  obtain ⟨A, c, h1, h2, h3⟩ := h
  exact ⟨A, _, c, h1, h2, h3⟩
theorem gives_no {w w' : World} {L : List Int} {er : Int} {e : Ending} (h : Gives w (okL er L) er e w') (he : er ≠ 0) :
    ∃ A c, e = .returned (.tuple #[.slice A 0 c, .int .i64 er]) ∧ Below w.heap.size w w' := by
  rw [okL_no he] at h
  obtain ⟨A, c, h1, _, h3⟩ := h
  exact ⟨A, c, h1, h3⟩

set_option maxHeartbeats 400000 in
theorem lineNormals_any (A : Option Addr) (n c : Nat) (L : List Int) (w : World) (hA : Ints w A n L) (hcap : n ≤ c) :
    Calls Tryd.prog 4 #[.slice A n c] w fun e w' => e = .returned (.bool true) ∧ Below w.heap.size w w' := by
  by_cases h : errW L = 0
  · have HN := Lib.hid (of_errW h)
    have HC := Lib.hid h
    clear h
    go_enter Tryd.func4, Tryd.ntmps4
    go_wp2_with fail
    refine (line_Normal _ _ _ _ _ hA).mono ?_
    intro e w1 hg
    obtain ⟨X, mX, cX, rfl, hX, hb⟩ := gives_ok3 hg HC.out
    have hA1 := hA.below hb
    have hX1 := hX.ints
    clear hg hX
    go_wp2_with (first | (go_at_call 25; refine (law_wrong_is HC.out _ _ _ _ hA1).mono ?_; rintro e w' ⟨rfl, rfl⟩))
    refine (ref_normal _ _ _ _ _ hA1 hcap HN.out).mono ?_
    rintro e w2 ⟨N, m, cN, rfl, hN, hb2⟩
    have hX2 := hX1.below hb2
    have hb3 := below_chain hb hb2 hb.size
    clear hX1 hA1 hb hb2
    go_wp2_with fail
    refine (ref_equal _ _ _ _ _ _ _ _ _ hX2 hN).mono ?_
    rintro e w3 ⟨rfl, hd⟩
    have hb4 := hb3.trans (hd.below _)
    clear hX2 hN hb3 hd
    go_wp2_with fail
    refine (law_known _).mono ?_
    rintro e w4 ⟨rfl, hb5⟩
    have hb6 := below_chain hb4 hb5 hb4.size
    clear hb4 hb5
    go_wp2_with fail
    go_ret
    exact ⟨rfl, hb6⟩
  · obtain ⟨er, her⟩ : ∃ er, errW L = er := ⟨_, rfl⟩
    rw [her] at h
    have hne : (er != 0) = true := by simpa using h
    have HC := Lib.hid her
    have HE := Lib.hid h
    clear h her
    go_enter Tryd.func4, Tryd.ntmps4
    go_wp2_with fail
    refine (line_Normal _ _ _ _ _ hA).mono ?_
    intro e w1 hg
    rw [HC.out] at hg
    obtain ⟨X, cX, rfl, hb⟩ := gives_no hg HE.out
    have hA1 := hA.below hb
    clear hg
    go_wp2_with (first | (go_at_call 25; refine (law_wrong_is HC.out _ _ _ _ hA1).mono ?_; rintro e w' ⟨rfl, rfl⟩))
    refine (law_known _).mono ?_
    rintro e w4 ⟨rfl, hb5⟩
    have hb6 := below_chain hb hb5 hb.size
    clear hb hb5
    go_wp2_with fail
    go_ret
    exact ⟨rfl, hb6⟩
end Go.Proofs.YtnlggiimgihmcaaDoor
