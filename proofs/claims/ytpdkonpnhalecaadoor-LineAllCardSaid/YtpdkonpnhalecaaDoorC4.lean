/-
  Contract: line.Ranks. No condition but that the slice reads.
-/
import Derived.Test.YtpdkonpnhalecaaDoorC3
import Derived.Test.YtpdkonpnhalecaaDoorB10
namespace Go.Proofs.YtpdkonpnhalecaaDoor
open Go.RowKit
noncomputable instance (L : List Int) : Decidable (RanksOk L) := Classical.propDecidable _
noncomputable def errR (L : List Int) : Int := if errW L = 0 then (if redB L = true then (if RanksOk L then 0 else 8) else 2) else errW L

set_option maxHeartbeats 400000 in
theorem line_Ranks (n c : Nat) (A : Option Addr) (L : List Int) (w : World) (hA : Ints w A n L) :
    Calls Tryd.prog 21 #[.slice A n c] w (Gives w (okL (errR L) (ranksL L)) (errR L)) := by
  have hb1 : Below w.heap.size w (w.alloc (.cells #[.slice A n c] 28)) := (Below.refl _ _).alloc (Nat.le_refl _) _
  by_cases h : errW L = 0
  · have hwL := of_errW h
    have h400 : n ≤ 400 := by rw [← hA.len]; exact (len_of_wordB hwL).1
    have h40 := Lib.hid (in40_of_wordB hwL)
    have HE := Lib.hid h
    clear hwL
    by_cases hr : redB L = true
    · have HR := Lib.hid hr
      have hee : errR L = if RanksOk L then 0 else 8 := by unfold errR; rw [if_pos h, if_pos hr]
      have Hee := Lib.hid hee
      clear h hr hee
      obtain ⟨er, her⟩ : ∃ er, er = errR L := ⟨_, rfl⟩
      rw [← her]
      have Her := Lib.hid her
      clear her
      go_enter Tryd.func21, Tryd.ntmps21
      go_wp2_with fail
      refine (line_check _ _ _ _ _ (many_one hA) rfl (by simp)).mono ?_
      rintro e w' ⟨rfl, rfl⟩
      rw [errs_one, HE.out]
      go_wp2_with fail
      refine (line_reduced _ _ _ _ _ (hA.alloc _)).mono ?_
      rintro e w' ⟨rfl, rfl⟩
      rw [HR.out]
      go_wp2_with fail
      refine (line_ranks _ _ _ _ _ (hA.alloc _) h40.out h400).mono ?_
      rintro e w2 ⟨b, A2, n2, c2, rfl, hb, hown, hbw⟩
      have hball := below_chain hb1 hbw hb1.size
      cases b with
      | false =>
        have hno : ¬RanksOk L := fun h => absurd (hb.2 h) (by simp)
        have e8 := Lib.hid (show er = 8 by rw [Her.out, Hee.out, if_neg hno])
        clear hb hown hbw hno
        go_wp2_with fail
        go_ret2
        rw [e8.out, okL_no (by omega)]
        exact gives_nil rfl hball
      | true =>
        have e0 := Lib.hid (show er = 0 by rw [Her.out, Hee.out, if_pos (hb.1 rfl)])
        obtain ⟨e2, hown2⟩ := hown rfl
        have hown3 := hown2.mono hb1.size
        clear hb hown hbw e2
        go_wp2_with fail
        go_ret2
        rw [e0.out, okL_yes rfl]
        exact gives_own hown3 rfl hball
    · have hrf : redB L = false := by simpa using hr
      have HR := Lib.hid hrf
      rw [show errR L = 2 by unfold errR; rw [if_pos h, if_neg hr]]
      rw [okL_no (by omega)]
      clear h hr hrf
      go_enter Tryd.func21, Tryd.ntmps21
      go_wp2_with fail
      refine (line_check _ _ _ _ _ (many_one hA) rfl (by simp)).mono ?_
      rintro e w' ⟨rfl, rfl⟩
      rw [errs_one, HE.out]
      go_wp2_with fail
      refine (line_reduced _ _ _ _ _ (hA.alloc _)).mono ?_
      rintro e w' ⟨rfl, rfl⟩
      rw [HR.out]
      go_wp2_with fail
      go_ret2
      exact gives_nil rfl hb1
  · rw [show errR L = errW L by unfold errR; rw [if_neg h]]
    rw [okL_no h]
    have hne : (errW L != 0) = true := by simpa using h
    have HE := Lib.hid (errs_one A n c L)
    clear h
    obtain ⟨er, her⟩ : ∃ er, er = errW L := ⟨_, rfl⟩
    rw [← her] at hne HE
    rw [← her]
    clear her
    go_enter Tryd.func21, Tryd.ntmps21
    go_wp2_with fail
    refine (line_check _ _ _ _ _ (many_one hA) rfl (by simp)).mono ?_
    rintro e w' ⟨rfl, rfl⟩
    rw [HE.out]
    go_wp2_with fail
    go_ret2
    exact gives_nil rfl hb1
end Go.Proofs.YtpdkonpnhalecaaDoor
