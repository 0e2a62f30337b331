/-
  Walk: LineWinds returns true. Conditions: the slice reads.
-/
import Derived.Test.YtnlggiimgihmcaaDoorE2
import Derived.Test.YtnlggiimgihmcaaDoorP10
namespace Go.Proofs.YtnlggiimgihmcaaDoor
open Go.RowKit
theorem ref_winding_is {f z : Int} {L : List Int} (h : windI L f = z) (A : Option Addr) (n c : Nat) (w : World) (hA : Ints w A n L) :
    Calls Tryd.prog 34 #[.slice A n c, .int .i64 f] w fun e w' => e = .returned (.int .i64 z) ∧ w' = w := by
  subst h
  exact ref_winding f A n c L w hA
theorem windsL_get {L : List Int} {N k : Nat} (h : k < N) : (windsL L N)[k]? = some (windI L ((k : Int) + 1)) := by
  unfold windsL
  rw [List.getElem?_map, List.getElem?_range h]
  rfl
theorem tmod2 (z : Int) : z.tmod 2 = 0 ↔ z % 2 = 0 := ⟨fun h => Int.emod_eq_zero_of_dvd (Int.dvd_of_tmod_eq_zero h), fun h => Int.tmod_eq_zero_of_dvd (Int.dvd_of_emod_eq_zero h)⟩
set_option maxHeartbeats 1600000 in
set_option maxRecDepth 100000 in
theorem lineWinds_any (K : Int) (A : Option Addr) (n c : Nat) (L : List Int) (w : World) (_ : I64 K) (hA : Ints w A n L) (_ : n ≤ c) :
    Calls Tryd.prog 7 #[.int .i64 K, .slice A n c] w fun e w' => e = .returned (.bool true) ∧ Below w.heap.size w w' := by
  by_cases h : errF K L = 0
  · obtain ⟨hK1, hK2⟩ := k_of_validB (of_errF h)
    have HF := Lib.hid h
    clear h
    obtain ⟨N, rfl⟩ : ∃ N : Nat, K = N := ⟨K.toNat, by omega⟩
    go_enter Tryd.func7, Tryd.ntmps7
    go_wp2_with fail
    refine (line_Winding _ _ _ _ _ _ hA).mono ?_
    intro e w1 hg
    obtain ⟨X, m1, c1, rfl, hX, hb⟩ := gives_ok3 hg HF.out
    rw [Int.toNat_natCast] at hX
    obtain rfl : N = m1 := by rw [← hX.len]; simp [windsL]
    have hA1 := hA.below hb
    have hX1 := hX.ints
    clear hg hX
    go_wp2_with fail
    refine (line_Inside _ _ _ _ _ _ hA1).mono ?_
    intro e w2 hg
    obtain ⟨Y, m2, c2, rfl, hY, hb2⟩ := gives_ok3 hg HF.out
    rw [Int.toNat_natCast] at hY
    have hA2 := hA1.below hb2
    have hX2 := hX1.below hb2
    have hY2 := hY.ints
    have hb3 := below_chain hb hb2 hb.size
    clear hg hY hA1 hX1 hb hb2
    go_wp2_with (first | (go_at_call 29; refine (law_wrongFor_is HF.out _ _ _ _ hA2).mono ?_; rintro e w' ⟨rfl, rfl⟩))
    go_loopw [9, 10] (fun v i wr => ∃ (k m : Nat) (B : Option Addr) (d : Nat) (P : List Int), k ≤ N ∧ m ≤ k ∧ i = .int .i64 ((k : Int) + 1) ∧ v = .slice B m d ∧ Own wr w'.heap.size B m d P ∧ Below w'.heap.size w' wr ∧ Hid (P = insTo L k)) (fun _ i _ => (N + 1) - (intOf i).toNat)
    case atStart => exact ⟨0, 0, none, 0, [], Nat.zero_le _, Nat.le_refl _, by go_num, rfl, Own.nil _ _, Below.refl _ _, rfl⟩
    case round =>
      obtain ⟨k, m, B, d, P, hk, hmk, rfl, rfl, hown, hb, HP⟩ := hrel
      have hAr := hA2.below hb
      have hXr := hX2.below hb
      have HL := Lib.hid hAr.len
      by_cases hlt : k < N
      · obtain ⟨ad, z, rfl, hz, hz1, hz2, hc⟩ := hXr.at_ hlt
        have HZ : Hid (windI L ((k : Int) + 1) = z) := by
          have := hz.out
          rw [windsL_get hlt] at this
          exact Option.some.inj this
        have hsz := hb.size
        have hodd := odd_wind L ((k : Int) + 1)
        rw [HZ.out] at hodd
        by_cases ho : z % 2 = 1
        · have ho' : (z.tmod 2 != 0) = true := by simpa using fun h => by have := (tmod2 z).1 h; omega
          have hP2 := Lib.hid (insTo_yes (hodd.2 ho))
          clear hodd ho hz
          go_wp2_with fail
          go_quiet ((go_at_call 34; exact Calls.quiet_of_same (ref_winding_is HZ.out _ _ _ _ hAr)))
          go_wp2_with (at_builtin; refine app1n rfl _ _ rfl (hown.drewN _) ((k : Int) + 1) rfl rfl (by unfold I64; omega) (by omega) hsz ?_)
          intro B' d' w5 hown' hb' _ _
          have hbw := (below_drewN hb _).trans hb'
          have HP' : Hid (P ++ [(k : Int) + 1] = insTo L (k + 1)) := by unfold Hid; rw [hP2.out, HP.out]
          clear hown hb hb' HP hP2
          go_wp2_with fail
          go_roundw
          case rel => exact ⟨k + 1, m + 1, B', d', _, by omega, by omega, by go_num, rfl, hown', hbw, HP'⟩
          case measure => simp [intOf]; omega
        · have ho' : (z.tmod 2 != 0) = false := by simpa using (tmod2 z).2 (by omega)
          have hP2 := Lib.hid (insTo_no (fun h => ho (hodd.1 h)))
          clear hodd ho hz
          go_wp2_with fail
          go_quiet ((go_at_call 34; exact Calls.quiet_of_same (ref_winding_is HZ.out _ _ _ _ hAr)))
          go_wp2_with fail
          go_roundw
          case rel => exact ⟨k + 1, m, B, d, _, by omega, by omega, by go_num, rfl, hown.drewN _, below_drewN hb _, by rw [hP2.out]; exact HP⟩
          case measure => simp [intOf]; omega
      · have hkn : k = N := by omega
        subst hkn
        have hP := HP.out
        subst hP
        have hI := hown.ints
        have hYr := hY2.below hb
        have hbw := below_chain hb3 hb hb3.size
        clear hown hb3 hb HP hAr hXr
        go_wp2_with fail
        refine (ref_equal _ _ _ _ _ _ _ _ _ hYr hI).mono ?_
        rintro e w3 ⟨rfl, hd⟩
        have hb4 := hbw.trans (hd.below _)
        clear hbw hd hI hYr
        go_wp2_with fail
        refine (law_known _).mono ?_
        rintro e w4 ⟨rfl, hb5⟩
        have hb6 := below_chain hb4 hb5 hb4.size
        clear hb4 hb5
        go_wp2_with fail
        go_ret
        exact ⟨rfl, hb6⟩
  · obtain ⟨er, her⟩ : ∃ er, errF K L = er := ⟨_, rfl⟩
    rw [her] at h
    have hne : (er != 0) = true := by simpa using h
    have HF := Lib.hid her
    have HE := Lib.hid h
    clear h her
    go_enter Tryd.func7, Tryd.ntmps7
    go_wp2_with fail
    refine (line_Winding _ _ _ _ _ _ hA).mono ?_
    intro e w1 hg
    rw [HF.out] at hg
    obtain ⟨X, c1, rfl, hb⟩ := gives_no hg HE.out
    have hA1 := hA.below hb
    clear hg
    go_wp2_with fail
    refine (line_Inside _ _ _ _ _ _ hA1).mono ?_
    intro e w2 hg
    rw [HF.out] at hg
    obtain ⟨Y, c2, rfl, hb2⟩ := gives_no hg HE.out
    have hA2 := hA1.below hb2
    have hb3 := below_chain hb hb2 hb.size
    clear hg hA1 hb hb2
    go_wp2_with (first | (go_at_call 29; refine (law_wrongFor_is HF.out _ _ _ _ hA2).mono ?_; rintro e w' ⟨rfl, rfl⟩))
    refine (law_known _).mono ?_
    rintro e w4 ⟨rfl, hb5⟩
    have hb6 := below_chain hb3 hb5 hb3.size
    clear hb3 hb5
    go_wp2_with fail
    go_ret
    exact ⟨rfl, hb6⟩
end Go.Proofs.YtnlggiimgihmcaaDoor
