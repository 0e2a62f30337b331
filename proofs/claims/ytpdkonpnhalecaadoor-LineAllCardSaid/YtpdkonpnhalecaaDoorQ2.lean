/-
  Contract: ref.Normal. Conditions: the slice reads as a word.
-/
import Derived.Test.YtpdkonpnhalecaaDoorQ1
namespace Go.Proofs.YtpdkonpnhalecaaDoor
open Go.RowKit

/-- The lesser one, as a call of ref.Less decides it. -/
theorem bet_yes {A B : List Int} (h : cmpL A B < 0) : bet A B = A := if_pos h
theorem bet_no {A B : List Int} (h : ¬cmpL A B < 0) : bet A B = B := if_neg h

set_option maxHeartbeats 1600000 in
theorem ref_normal (A : Option Addr) (n c : Nat) (L : List Int) (w : World) (hA : Ints w A n L) (_ : n ≤ c) (hw : wordB L = true) :
    Calls Tryd.prog 39 #[.slice A n c] w fun e w' => ∃ A' m c', e = .returned (.slice A' m c') ∧ Ints w' A' m (normalL L) ∧ Below w.heap.size w w' := by
  have hle := hA.le
  have hev : n % 2 = 0 := by rw [← hA.len]; exact wordB_even hw
  have h400 : n ≤ 400 := by rw [← hA.len]; exact (wordB_iff.1 hw).2.1
  have HEV := Lib.hid (wordB_even hw)
  clear hw
  go_enter Tryd.func39, Tryd.ntmps39
  go_wp2_with fail
  refine (ref_reduce _ _ _ _ _ hA hev).mono ?_
  rintro e w1 ⟨B, m, d, R, rfl, hR, hb1, HE, HN, hmn, hmd⟩
  have HRN : Hid (refTo R (R.length / 2) = normalL L) := normal_of_reduced HEV.out HE.out HN.out
  have hme : m % 2 = 0 := by rw [← hR.len, ← HE.out.len]; exact HEV.out
  have HRL := Lib.hid hR.len
  clear HE HN HEV hev
  go_wp2_with fail
  refine (ref_reverse _ _ _ _ _ hR).mono ?_
  rintro e w2 ⟨C, c2, rfl, hV, hb2⟩
  have hR2 := hR.below hb2
  have hC2 := hV.ints
  have hCc := hV.cap
  have hb3 := below_chain hb1 hb2 hb1.size
  clear hR hV hb1 hb2
  go_wp2_with fail
  go_loopw [4, 6] (fun v i wr => ∃ (k : Nat) (D : Option Addr) (q : Nat), 2 * k ≤ m ∧ i = .int .i64 ((2 * k : Nat) : Int) ∧ v = .slice D m q ∧ Ints wr D m (refTo R k) ∧ Below w2.heap.size w2 wr) (fun _ i _ => m - (intOf i).toNat)
  case atStart => exact ⟨0, B, d, Nat.zero_le _, rfl, rfl, hR2, Below.refl _ _⟩
  case round =>
    obtain ⟨k, D, q, hk, rfl, rfl, hD, hbr⟩ := hrel
    have hRr := hR2.below hbr
    have hCr := hC2.below hbr
    obtain ⟨t, ht⟩ : ∃ t, 2 * k = t := ⟨_, rfl⟩
    rw [ht] at hk ⊢
    by_cases hlt : t < m
    · go_wp2_with fail
      refine (ref_rotated t _ _ _ _ _ hRr (by omega) hmd).mono ?_
      rintro e w3 ⟨A3, c3, rfl, h3, hb4⟩
      have i3 := h3.ints
      have hD3 := hD.below hb4
      have hC3 := hCr.below hb4
      have hb5 := below_chain hbr hb4 hbr.size
      clear h3 hD hRr hCr hbr hb4
      go_wp2_with fail
      refine (ref_rotated t _ _ _ _ _ hC3 (by omega) hCc).mono ?_
      rintro e w4 ⟨A4, c4, rfl, h4, hb6⟩
      have i4 := h4.ints
      have j3 := i3.below hb6
      have hD4 := hD3.below hb6
      have hb7 := below_chain hb5 hb6 hb5.size
      clear h4 hD3 hC3 hb5 hb6 i3
      go_wp2_with fail
      refine (ref_less _ _ _ _ _ _ _ _ j3 hD4).mono ?_
      rintro e w5 ⟨rfl, hd⟩
      have j4 := i4.drawn hd
      have k3 := j3.drawn hd
      have hD5 := hD4.drawn hd
      have hb8 := hb7.trans (hd.below _)
      clear hd hb7 i4 j3 hD4
      have hsucc : Hid (refTo R (k + 1) = bet (rotL R.reverse t) (bet (rotL R t) (refTo R k))) := by unfold Hid; rw [refTo, ht]
      have ht2 : Hid (((t : Int) + 2) = ((2 * (k + 1) : Nat) : Int)) := by unfold Hid; omega
      have hk1 : 2 * (k + 1) ≤ m := by omega
      have hkt := Lib.hid ht
      clear ht
      by_cases hl1 : cmpL (rotL R t) (refTo R k) < 0
      · have E1 : decide (cmpL (rotL R t) (refTo R k) < 0) = true := by simpa using hl1
        rw [E1]
        have hs2 : Hid (refTo R (k + 1) = bet (rotL R.reverse t) (rotL R t)) := by unfold Hid; rw [hsucc.out, bet_yes hl1]
        clear E1 hl1 hsucc hD5
        go_wp2_with fail
        refine (ref_less _ _ _ _ _ _ _ _ j4 k3).mono ?_
        rintro e w6 ⟨rfl, hd⟩
        have j5 := j4.drawn hd
        have k4 := k3.drawn hd
        have hb9 := hb8.trans (hd.below _)
        clear hd hb8 j4 k3
        by_cases hl2 : cmpL (rotL R.reverse t) (rotL R t) < 0
        · have E2 : decide (cmpL (rotL R.reverse t) (rotL R t) < 0) = true := by simpa using hl2
          rw [E2]
          rw [← bet_yes hl2, ← hs2.out] at j5
          clear E2 hl2 hs2
          go_wp2_with fail
          go_roundw
          case rel => exact ⟨k + 1, A4, c4, hk1, by rw [← ht2.out], rfl, j5, hb9⟩
          case measure => simp [intOf]; omega
        · have E2 : decide (cmpL (rotL R.reverse t) (rotL R t) < 0) = false := by simpa using hl2
          rw [E2]
          rw [← bet_no hl2, ← hs2.out] at k4
          clear E2 hl2 hs2
          go_wp2_with fail
          go_roundw
          case rel => exact ⟨k + 1, A3, c3, hk1, by rw [← ht2.out], rfl, k4, hb9⟩
          case measure => simp [intOf]; omega
      · have E1 : decide (cmpL (rotL R t) (refTo R k) < 0) = false := by simpa using hl1
        rw [E1]
        have hs2 : Hid (refTo R (k + 1) = bet (rotL R.reverse t) (refTo R k)) := by unfold Hid; rw [hsucc.out, bet_no hl1]
        clear E1 hl1 hsucc k3
        go_wp2_with fail
        refine (ref_less _ _ _ _ _ _ _ _ j4 hD5).mono ?_
        rintro e w6 ⟨rfl, hd⟩
        have j5 := j4.drawn hd
        have k4 := hD5.drawn hd
        have hb9 := hb8.trans (hd.below _)
        clear hd hb8 j4 hD5
        by_cases hl2 : cmpL (rotL R.reverse t) (refTo R k) < 0
        · have E2 : decide (cmpL (rotL R.reverse t) (refTo R k) < 0) = true := by simpa using hl2
          rw [E2]
          rw [← bet_yes hl2, ← hs2.out] at j5
          clear E2 hl2 hs2
          go_wp2_with fail
          go_roundw
          case rel => exact ⟨k + 1, A4, c4, hk1, by rw [← ht2.out], rfl, j5, hb9⟩
          case measure => simp [intOf]; omega
        · have E2 : decide (cmpL (rotL R.reverse t) (refTo R k) < 0) = false := by simpa using hl2
          rw [E2]
          rw [← bet_no hl2, ← hs2.out] at k4
          clear E2 hl2 hs2
          go_wp2_with fail
          go_roundw
          case rel => exact ⟨k + 1, D, q, hk1, by rw [← ht2.out], rfl, k4, hb9⟩
          case measure => simp [intOf]; omega
    · have hfin : refTo R k = normalL L := by
        rw [← HRN.out, HRL.out]
        congr 1
        omega
      rw [hfin] at hD
      have hbw := below_chain hb3 hbr hb3.size
      clear hfin hRr hCr hbr hb3
      go_wp2_with fail
      go_ret
      exact ⟨D, m, q, rfl, hD, hbw⟩
end Go.Proofs.YtpdkonpnhalecaaDoor
