/-
  Contract: line.Winding. Conditions: the slices read as lists of ints.
-/
import Derived.Test.YtnlggiimgihmcaaDoorB5
namespace Go.Proofs.YtnlggiimgihmcaaDoor
open Go.RowKit

def windsL (L : List Int) (N : Nat) : List Int := (List.range N).map fun t : Nat => windI L ((t : Int) + 1)

/-- The winding numbers behind k letters; and in the midst of the letter k, when the fingers up to s have been reckoned. -/
def windMid (L : List Int) (N k s : Nat) : List Int := (List.range N).map fun t : Nat => sumTo (windAt L ((t : Int) + 1)) (if t < s then k + 1 else k)
theorem windMid_len (L : List Int) (N k s : Nat) : (windMid L N k s).length = N := by simp [windMid]
theorem windMid_get {L : List Int} {N k s : Nat} (h : s < N) : (windMid L N k s)[s]? = some (sumTo (windAt L ((s : Int) + 1)) k) := by
  unfold windMid
  rw [List.getElem?_map, List.getElem?_range h]
  simp
theorem windMid_succ {L : List Int} {N k s : Nat} {x : Int} (h : s < N) (hx : L[k]? = some x) (hs : x < (s : Int) + 1) :
    (windMid L N k s).set s (sumTo (windAt L ((s : Int) + 1)) k + (1 - 2 * ((k : Int) % 2))) = windMid L N k (s + 1) := by
  apply List.ext_getElem?
  intro t
  rw [List.getElem?_set]
  unfold windMid
  by_cases e : s = t
  · subst e
    rw [if_pos rfl, if_pos (by simpa using h), List.getElem?_map, List.getElem?_range h]
    simp [sumTo_succ, windAt_yes hx hs]
  · rw [if_neg e, List.getElem?_map, List.getElem?_map]
    by_cases ht : t < N
    · rw [List.getElem?_range ht]
      by_cases h1 : t < s
      · simp [h1, show t < s + 1 by omega]
      · simp [h1, show ¬ t < s + 1 by omega]
    · rw [List.getElem?_eq_none (by simpa using ht)]; rfl
theorem windMid_zero {L : List Int} {N k s : Nat} {x : Int} (hx : L[k]? = some x) (hs : (s : Int) ≤ x) : windMid L N k 0 = windMid L N k s := by
  unfold windMid
  apply List.map_congr_left
  intro t _
  by_cases h1 : t < s
  · rw [if_neg (by omega), if_pos h1, sumTo_succ, windAt_no hx (by omega), Int.add_zero]
  · rw [if_neg (by omega), if_neg h1]
theorem windMid_end (L : List Int) (N k : Nat) : windMid L N k N = windMid L N (k + 1) 0 := by
  unfold windMid
  apply List.map_congr_left
  intro t ht
  rw [if_pos (List.mem_range.1 ht), if_neg (by omega)]
theorem windMid_start (L : List Int) (N : Nat) : List.replicate N 0 = windMid L N 0 0 := by
  unfold windMid
  symm
  apply List.eq_replicate_iff.2
  simp [sumTo]
theorem windMid_last {L : List Int} {N n : Nat} (h : L.length = n) : windMid L N n 0 = windsL L N := by
  unfold windMid windsL windI
  rw [h]
  apply List.map_congr_left
  intro t _
  rw [if_neg (by omega)]
theorem le_of_validB {K x : Int} {L : List Int} {k : Nat} (h : validB K L = true) (hx : L[k]? = some x) : x ≤ K := by
  unfold validB at h
  simp only [Bool.and_eq_true, List.all_eq_true, decide_eq_true_eq] at h
  exact h.2 x (List.mem_of_getElem? hx)

set_option maxHeartbeats 1600000 in
theorem line_Winding (K : Int) (A : Option Addr) (n c : Nat) (L : List Int) (w : World) (hA : Ints w A n L) :
    Calls Tryd.prog 32 #[.int .i64 K, .slice A n c] w (Gives w (okL (errF K L) (windsL L K.toNat)) (errF K L)) := by
  have hle := hA.le
  have HL := Lib.hid hA.len
  by_cases h : errF K L = 0
  · rw [okL_yes h, h]
    have hv := of_errF h
    have hK := k_of_validB hv
    obtain ⟨hK1, hK2⟩ := hK
    obtain ⟨N, rfl⟩ : ∃ N : Nat, K = N := ⟨K.toNat, by omega⟩
    rw [Int.toNat_natCast]
    have hn400 : n ≤ 400 := by rw [← HL.out]; exact (len_of_wordB (wordB_of_validB hv)).1
    have HV := Lib.hid hv
    have h40 := Lib.hid (in40_of_wordB (wordB_of_validB hv))
    clear hv
    go_enter Tryd.func32, Tryd.ntmps32
    go_wp2_with (first | (go_at_call 61; refine (line_checkFor _ _ _ _ _ _ hA).mono ?_; rintro e w' ⟨rfl, rfl⟩) | (at_make; refine makeN rfl _ _ rfl N rfl rfl (by omega) (Nat.le_refl _) ?_; intro w1 hown hb1 hz1))
    have hs0 : w1.cell? ⟨w'.heap.size, 0, none⟩ = some (.int .i64 1) := (hb1.cell (by simp)).trans (by rw [World.cell?_alloc_at _ _ _ _ rfl]; rfl)
    have hs1 : w1.cell? ⟨w'.heap.size, 1, none⟩ = some (.int .i64 (-1)) := (hb1.cell (by simp)).trans (by rw [World.cell?_alloc_at _ _ _ _ rfl]; rfl)
    have hbw : Below w'.heap.size w' w1 := below_chain ((Below.refl _ _).alloc (Nat.le_refl _) _) hb1 (by simp)
    have hown := hown.mono (base' := w'.heap.size) (by simp)
    have esz : (w'.alloc (.cells #[.int .i64 1, .int .i64 (-1)] 58)).heap.size = w'.heap.size + 1 := by simp
    rw [esz] at hown
    clear esz
    have HS0 := Lib.hid hs0
    have HS1 := Lib.hid hs1
    clear hb1 hs0 hs1 h
    rw [windMid_start L N] at hown
    obtain ⟨P0, hP0⟩ : ∃ P0, P0 = windMid L N 0 0 := ⟨_, rfl⟩
    rw [← hP0] at hown
    have HP0 := Lib.hid hP0
    clear hP0
    go_loopw [23] (fun i wr => ∃ (k : Nat) (P : List Int), k ≤ n ∧ i = .int .i64 k ∧ Own wr w'.heap.size (some ⟨w'.heap.size + 1, 0, none⟩) N N P ∧ w1.grownBy wr (some (w'.heap.size + 1)) ∧ Hid (P = windMid L N k 0)) (fun i _ => n - (intOf i).toNat)
    case atStart => exact ⟨0, _, Nat.zero_le _, rfl, hown, World.grownBy.refl _ _, HP0⟩
    case round =>
      obtain ⟨k, P, hk, rfl, hownr, hg, HP⟩ := hrel
      have hbr : Below w'.heap.size w' wr := hbw.grown hg hbw.size (fun k hk => by simp at hk; omega)
      by_cases hlt : k < n
      · obtain ⟨ad, x, rfl, hx, hx1, hx2, hc⟩ := (hA.below hbr).at_ hlt
        obtain ⟨hx3, hx4⟩ := h40.out.at_ hx.out
        have hxN := le_of_validB HV.out hx.out
        obtain ⟨q, rfl⟩ : ∃ q : Nat, x = q := ⟨x.toNat, by omega⟩
        rw [windMid_zero hx.out (Int.le_refl _)] at HP
        go_wp2_with fail
        obtain ⟨wo, rfl⟩ : ∃ wo : World, wo = wr := ⟨_, rfl⟩
        clear hc hbr
        go_loopw [11] (fun f wr => ∃ (s : Nat) (P : List Int), q ≤ s ∧ s ≤ N ∧ f = .int .i64 ((s : Int) + 1) ∧ Own wr w'.heap.size (some ⟨w'.heap.size + 1, 0, none⟩) N N P ∧ w1.grownBy wr (some (w'.heap.size + 1)) ∧ Hid (P = windMid L N k s)) (fun f _ => (N + 1) - (intOf f).toNat)
        case atStart => exact ⟨q, _, Nat.le_refl _, by omega, rfl, hownr, hg, HP⟩
        case round =>
          clear hownr hg HP
          obtain ⟨s, P, hs, hsN, rfl, hownr, hg, HP⟩ := hrel
          by_cases hsl : s < N
          · have hwb := wind_bd L ((s : Int) + 1) k
            have hget : P[s]? = some (sumTo (windAt L ((s : Int) + 1)) k) := by rw [HP.out]; exact windMid_get hsl
            have hnew := windMid_succ (N := N) hsl hx.out (by omega)
            obtain ⟨u, hu⟩ : ∃ u, sumTo (windAt L ((s : Int) + 1)) k = u := ⟨_, rfl⟩
            rw [hu] at hwb hget hnew
            clear hu
            obtain ⟨hw1, hw2⟩ := hwb
            have hcell := hownr.cell hget
            have hfree := hownr.free s
            have c0 : wr.cell? ⟨w'.heap.size, 0, none⟩ = some (.int .i64 1) := hg.cell HS0.out (by simp)
            have c1 : wr.cell? ⟨w'.heap.size, 1, none⟩ = some (.int .i64 (-1)) := hg.cell HS1.out (by simp)
            have HN := Lib.hid hnew
            clear hget hnew
            have hsn : (s : Int) < N := by omega
            rcases Nat.mod_two_eq_zero_or_one k with hk2 | hk2
            · have hk2' : (k : Int) % 2 = 0 := by omega
              have hset := hownr.stored s (x := u + 1) ⟨by omega, by omega⟩
              have hset2 := hset.drew
              have hg2 := grown_drawn (grown_set hg s (.int .i64 (u + 1))) 1
              have HP' : Hid (P.set s (u + 1) = windMid L N k (s + 1)) := by
                unfold Hid; rw [← HN.out, HP.out, hk2']; congr 1
              clear hset hownr hg HP HN
              go_wp2_with fail
              go_region
              go_wp2_with fail
              go_roundw
              case rel => exact ⟨s + 1, _, by omega, by omega, by go_num, hset2, hg2, HP'⟩
              case measure => simp [intOf]; omega
            · have hk2' : (k : Int) % 2 = 1 := by omega
              have hset := hownr.stored s (x := u + -1) ⟨by omega, by omega⟩
              have hset2 := hset.drew
              have hg2 := grown_drawn (grown_set hg s (.int .i64 (u + -1))) 1
              have HP' : Hid (P.set s (u + -1) = windMid L N k (s + 1)) := by
                unfold Hid; rw [← HN.out, HP.out, hk2']; congr 1
              clear hset hownr hg HP HN
              go_wp2_with fail
              go_region
              go_wp2_with fail
              go_roundw
              case rel => exact ⟨s + 1, _, by omega, by omega, by go_num, hset2, hg2, HP'⟩
              case measure => simp [intOf]; omega
          · have hsN' : s = N := by omega
            subst hsN'
            rw [windMid_end] at HP
            go_wp2_with fail
            go_roundw
            case rel => exact ⟨k + 1, _, by omega, by go_num, hownr, hg, HP⟩
            case measure => simp [intOf]; omega
      · go_wp2_with fail
        go_ret2
        have hkn : k = n := by omega
        subst hkn
        rw [windMid_last HL.out] at HP
        exact gives_own hownr HP.out hbr
  · rw [okL_no h]
    have hne : (errF K L != 0) = true := by simpa using h
    clear h
    go_enter Tryd.func32, Tryd.ntmps32
    go_wp2_with (first | (go_at_call 61; refine (line_checkFor _ _ _ _ _ _ hA).mono ?_; rintro e w' ⟨rfl, rfl⟩))
    go_ret2
    exact gives_nil rfl (Below.refl _ _)
end Go.Proofs.YtnlggiimgihmcaaDoor
